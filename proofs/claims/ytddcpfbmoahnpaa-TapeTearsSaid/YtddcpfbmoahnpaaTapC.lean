/-
  Walks of the laws on tapes (layer 14): a crash at any byte.
-/
import Derived.Test.YtddcpfbmoahnpaaTapL
import Derived.Test.YtddcpfbmoahnpaaErrIs
set_option linter.unusedVariables false
set_option linter.unusedSimpArgs false
set_option maxHeartbeats 400000
namespace Go.Proofs.Ytddcpfbmoahnpaa
open Go Go.MV


theorem sameTexts_spec (a b : List Bs) (S : MS) : MCalls Try.prog 13 [.lst none 1 (a.map encS), .lst none 1 (b.map encS)] S fun v σ' => v = .bool (decide (a = b)) ∧ σ' = S := by
  refine mcalls_body Try.func13 rfl Try.ntmps13 (Nat.le_of_ble_eq_true rfl) ?_
  refine mwp_len (t := 0) rfl fun hlen => ?_
  rw [List.length_map] at hlen
  refine mwp_seq ?_
  refine mwp_region rfl ?_   -- region 0
  refine wOps_op rfl (op_assign rfl rfl ?_)   -- t4 ← assign const bool false
  refine wOps_nil ?_
  refine mwp_seq ?_
  refine mwp_seq ?_
  refine mwp_region rfl ?_   -- region 1
  refine wOps_op rfl (op_move rfl rfl ?_)   -- t6 ← move tmp 0
  refine wOps_op rfl (op_len_lst rfl Try.underlying22 rfl ?_)   -- t7 ← call ('rec', {'callee': ('app', 'builtin', [('id', 'Go.Builtin.le
  refine wOps_op rfl (op_move rfl rfl ?_)   -- t8 ← move tmp 1
  refine wOps_op rfl (op_len_lst rfl Try.underlying22 rfl ?_)   -- t9 ← call ('rec', {'callee': ('app', 'builtin', [('id', 'Go.Builtin.le
  refine wOps_op rfl (op_cmp rfl rfl rfl rfl ?_)   -- t10 ← binOp neq 3 tmp 7 tmp 9 3
  refine wOps_nil ?_
  refine mwp_cond_split rfl (fun h10 => ?_) (fun h10 => ?_)   -- if t10
  · -- yes
    refine mwp_seq ?_
    refine mwp_region rfl ?_   -- region 2
    refine wOps_op rfl (op_assign rfl rfl ?_)   -- t4 ← assign const bool false
    refine wOps_nil ?_
    refine mwp_ret ?_
    exact ret_tmp (.inr rfl) Try.results13 rfl (.of_eq (by congr 1; symm; rw [decide_eq_false_iff_not]; intro e; subst e; simp at h10)) (.bool _) ⟨rfl, rfl⟩
  · -- no
    have hab : a.length = b.length := by simp at h10; omega
    refine mwp_skip ?_
    refine mwp_seq ?_
    refine mwp_seq ?_
    refine mwp_region rfl ?_   -- region 3
    refine wOps_op rfl (op_assign rfl rfl ?_)   -- t5 ← assign const int i64 0
    refine wOps_nil ?_
    refine mwp_block ?_   -- block 0
    refine mwp_loopK (α := Nat) [(0, _), (1, _)] (fun i => [(5, .int .i64 (i : Int))]) (fun i => []) (fun i => i ≤ a.length ∧ a.take i = b.take i) (fun i => a.length - i) (0) (.keep rfl (.keep rfl (.nil))) (.keep rfl (.nil)) (⟨by omega, rfl⟩) (rfl) ?_
    rintro i ⟨hi, heq⟩
    refine mwp_seq ?_
    refine mwp_seq ?_
    refine mwp_region rfl ?_   -- region 4
    refine wOps_op rfl (op_move rfl rfl ?_)   -- t11 ← move tmp 5
    refine wOps_op rfl (op_move rfl rfl ?_)   -- t12 ← move tmp 0
    refine wOps_op rfl (op_len_lst rfl Try.underlying22 rfl ?_)   -- t13 ← call ('rec', {'callee': ('app', 'builtin', [('id', 'Go.Builtin.le
    refine wOps_op rfl (op_cmp rfl rfl rfl rfl ?_)   -- t14 ← binOp lss 3 tmp 11 tmp 13 3
    refine wOps_nil ?_
    refine mwp_cond_split rfl (fun h14 => ?_) (fun h14 => ?_)   -- if t14
    · -- yes
      have hlt : i < a.length := by simpa using h14
      obtain ⟨x, hs⟩ : ∃ q_, a[i]? = some q_ := ⟨_, List.getElem?_eq_getElem hlt⟩
      obtain ⟨y, hs2⟩ : ∃ s, b[i]? = some s := ⟨_, List.getElem?_eq_getElem (by omega)⟩
      refine mwp_skip ?_
      refine mwp_seq ?_
      refine mwp_block ?_   -- block 1
      refine mwp_seq ?_
      refine mwp_draw [] [_] mo (by decide) rfl rfl rfl rfl ?_   -- region 6
      refine dOps_op rfl rfl (.cons (op_move rfl rfl ⟨rfl, rfl⟩) .nil) ?_   -- t17 ← move tmp 0
      refine dOps_op rfl rfl (.cons (op_move rfl rfl ⟨rfl, rfl⟩) .nil) ?_   -- t18 ← move tmp 5
      refine dOps_op rfl rfl (.cons (op_indexAddr rfl Try.underlying22 sz9 (by decide) rfl rfl rfl (get_map hs) ⟨rfl, rfl⟩) .nil) ?_   -- t19 ← indexAddr 22 tmp 17 tmp 18
      refine dOps_op rfl rfl (.cons (op_load_sptr rfl rfl ta9 rfl ⟨rfl, rfl⟩) .nil) ?_   -- t20 ← load 9 tmp 19
      refine dOps_op rfl rfl (.cons (op_move rfl rfl ⟨rfl, rfl⟩) .nil) ?_   -- t21 ← move tmp 1
      refine dOps_op rfl rfl (.cons (op_move rfl rfl ⟨rfl, rfl⟩) .nil) ?_   -- t22 ← move tmp 5
      refine dOps_op rfl rfl (.cons (op_indexAddr rfl Try.underlying22 sz9 (by decide) rfl rfl rfl (get_map hs2) ⟨rfl, rfl⟩) .nil) ?_   -- t23 ← indexAddr 22 tmp 21 tmp 22
      refine dOps_op rfl rfl (.cons (op_load_sptr rfl rfl ta9 rfl ⟨rfl, rfl⟩) .nil) ?_   -- t24 ← load 9 tmp 23
      refine dOps_op rfl rfl (.cons (op_strcmp rfl rfl rfl rfl ⟨rfl, rfl⟩) .nil) ?_   -- t25 ← binOp neq 9 tmp 20 tmp 24 9
      refine dOps_nil ?_
      refine mwp_cond_split rfl (fun h25 => ?_) (fun h25 => ?_)   -- if t25
      · -- yes
        refine mwp_seq ?_
        refine mwp_region rfl ?_   -- region 7
        refine wOps_op rfl (op_assign rfl rfl ?_)   -- t4 ← assign const bool false
        refine wOps_nil ?_
        refine mwp_ret ?_
        exact ret_tmp (.inr rfl) Try.results13 rfl (.of_eq (by congr 1; symm; rw [decide_eq_false_iff_not]; intro e; subst e; rw [hs2] at hs; injection hs with hs; subst hs; simp at h25)) (.bool _) ⟨rfl, rfl⟩
      · -- no
        refine mwp_skip ?_
        refine mwp_region rfl ?_   -- region 5
        refine wOps_op rfl (op_move rfl rfl ?_)   -- t15 ← move tmp 5
        refine wOps_op rfl (op_arith rfl rfl rfl rfl ?_)   -- t16 ← binOp add 3 tmp 15 const int i64 1 3
        refine wOps_op rfl (op_assign rfl rfl ?_)   -- t5 ← assign tmp 16
        refine wOps_nil ?_
        refine ⟨i + 1, by omega, ⟨by omega, ?_⟩, rfl, (.keep rfl (.keep rfl (.nil))), (.eq rfl (int_succ hlt hlen) (.nil))⟩
        rw [List.take_add_one, List.take_add_one, hs, hs2, heq]
        simp at h25
        rw [h25]
    · -- no
      have hge : i = a.length := by simp at h14; omega
      refine mwp_exit ?_
      refine mwp_seq ?_
      refine mwp_region rfl ?_   -- region 8
      refine wOps_op rfl (op_assign rfl rfl ?_)   -- t4 ← assign const bool true
      refine wOps_nil ?_
      refine mwp_ret ?_
      exact ret_tmp (.inr rfl) Try.results13 rfl (.of_eq (by congr 1; symm; rw [decide_eq_true_iff]; rw [hge, List.take_length, hab, List.take_length] at heq; exact heq)) (.bool _) ⟨rfl, rfl⟩

theorem long_spec (l : List Bs) (S : MS) : MCalls Try.prog 7 [.lst none 1 (l.map encS)] S fun v σ' => v = .bool (l.any fun s => decide (500 < s.length)) ∧ σ' = S := by
  refine mcalls_body Try.func7 rfl Try.ntmps7 (Nat.le_of_ble_eq_true rfl) ?_
  refine mwp_len (t := 0) rfl fun hlen => ?_
  rw [List.length_map] at hlen
  refine mwp_seq ?_
  refine mwp_region rfl ?_   -- region 0
  refine wOps_op rfl (op_assign rfl rfl ?_)   -- t2 ← assign const bool false
  refine wOps_nil ?_
  refine mwp_seq ?_
  refine mwp_seq ?_
  refine mwp_region rfl ?_   -- region 1
  refine wOps_op rfl (op_assign rfl rfl ?_)   -- t3 ← assign const int i64 0
  refine wOps_nil ?_
  refine mwp_block ?_   -- block 0
  refine mwp_loopK (α := Nat) [(0, _)] (fun i => [(3, .int .i64 (i : Int))]) (fun i => []) (fun i => i ≤ l.length ∧ (l.take i).any (fun s => decide (500 < s.length)) = false) (fun i => l.length - i) (0) (.keep rfl (.nil)) (.keep rfl (.nil)) (⟨by omega, rfl⟩) (rfl) ?_
  rintro i ⟨hi, hall⟩
  refine mwp_seq ?_
  refine mwp_seq ?_
  refine mwp_region rfl ?_   -- region 2
  refine wOps_op rfl (op_move rfl rfl ?_)   -- t4 ← move tmp 3
  refine wOps_op rfl (op_move rfl rfl ?_)   -- t5 ← move tmp 0
  refine wOps_op rfl (op_len_lst rfl Try.underlying22 rfl ?_)   -- t6 ← call ('rec', {'callee': ('app', 'builtin', [('id', 'Go.Builtin.le
  refine wOps_op rfl (op_cmp rfl rfl rfl rfl ?_)   -- t7 ← binOp lss 3 tmp 4 tmp 6 3
  refine wOps_nil ?_
  refine mwp_cond_split rfl (fun h7 => ?_) (fun h7 => ?_)   -- if t7
  · -- yes
    have hlt : i < l.length := by simpa using h7
    obtain ⟨s, hs⟩ : ∃ q_, l[i]? = some q_ := ⟨_, List.getElem?_eq_getElem hlt⟩
    refine mwp_skip ?_
    refine mwp_seq ?_
    refine mwp_block ?_   -- block 1
    refine mwp_seq ?_
    refine mwp_region rfl ?_   -- region 4
    refine wOps_op rfl (op_move rfl rfl ?_)   -- t10 ← move tmp 0
    refine wOps_op rfl (op_move rfl rfl ?_)   -- t11 ← move tmp 3
    refine wOps_op rfl (op_indexAddr rfl Try.underlying22 sz9 (by decide) rfl rfl rfl (get_map hs) ?_)   -- t12 ← indexAddr 22 tmp 10 tmp 11
    refine wOps_op rfl (op_load_sptr rfl rfl ta9 rfl ?_)   -- t13 ← load 9 tmp 12
    refine wOps_op rfl (op_len_bs rfl Try.underlying9 rfl ?_)   -- t14 ← call ('rec', {'callee': ('app', 'builtin', [('id', 'Go.Builtin.le
    refine wOps_op rfl (op_cmp rfl rfl rfl rfl ?_)   -- t15 ← binOp gtr 3 tmp 14 const int i64 500 3
    refine wOps_nil ?_
    refine mwp_cond_split rfl (fun h15 => ?_) (fun h15 => ?_)   -- if t15
    · -- yes
      refine mwp_seq ?_
      refine mwp_region rfl ?_   -- region 5
      refine wOps_op rfl (op_assign rfl rfl ?_)   -- t2 ← assign const bool true
      refine wOps_nil ?_
      refine mwp_ret ?_
      exact ret_tmp (.inr rfl) Try.results7 rfl (.of_eq (by congr 1; symm; rw [List.any_eq_true]; exact ⟨s, List.mem_of_getElem? hs, by simp at h15; simp; omega⟩)) (.bool _) ⟨rfl, rfl⟩
    · -- no
      refine mwp_skip ?_
      refine mwp_region rfl ?_   -- region 3
      refine wOps_op rfl (op_move rfl rfl ?_)   -- t8 ← move tmp 3
      refine wOps_op rfl (op_arith rfl rfl rfl rfl ?_)   -- t9 ← binOp add 3 tmp 8 const int i64 1 3
      refine wOps_op rfl (op_assign rfl rfl ?_)   -- t3 ← assign tmp 9
      refine wOps_nil ?_
      refine ⟨i + 1, by omega, ⟨by omega, ?_⟩, rfl, (.keep rfl (.nil)), (.eq rfl (int_succ hlt hlen) (.nil))⟩
      rw [List.take_add_one, hs, List.any_append, hall]
      simp at h15
      simp
      omega
  · -- no
    have hge : i = l.length := by simp at h7; omega
    refine mwp_exit ?_
    refine mwp_seq ?_
    refine mwp_region rfl ?_   -- region 6
    refine wOps_op rfl (op_assign rfl rfl ?_)   -- t2 ← assign const bool false
    refine wOps_nil ?_
    refine mwp_ret ?_
    exact ret_tmp (.inr rfl) Try.results7 rfl (.of_eq (by rw [hge, List.take_length] at hall; rw [hall])) (.bool _) ⟨rfl, rfl⟩

theorem adds_spec (id : Nat) (rs l : List Bs) (k : Nat) (S : MS) (h : S[id]? = some (tapeO (laids rs) k)) (hl : ∀ r ∈ l, r.length ≤ 500) (hfit : (laids rs).length + (laids l).length ≤ 100000) : MCalls Try.prog 9 [.ref id 0, .lst none 1 (l.map encS)] S fun v σ' => v = .bool true ∧ σ' = S.set id (tapeO (laids (rs ++ l)) k) := by
  refine mcalls_body Try.func9 rfl Try.ntmps9 (Nat.le_of_ble_eq_true rfl) ?_
  refine mwp_len (t := 1) rfl fun hlen => ?_
  rw [List.length_map] at hlen
  rw [List.append_nil]
  show mwp _ _ _ _ _ _ _ (([] : MS) ++ S)
  refine mwp_seq ?_
  refine mwp_region rfl ?_   -- region 0
  refine wOps_op rfl (op_assign rfl rfl ?_)   -- t4 ← assign const bool false
  refine wOps_nil ?_
  refine mwp_seq ?_
  refine mwp_seq ?_
  refine mwp_region rfl ?_   -- region 1
  refine wOps_op rfl (op_assign rfl rfl ?_)   -- t5 ← assign const int i64 0
  refine wOps_nil ?_
  refine mwp_block ?_   -- block 0
  refine mwp_loopK (α := Nat) [(0, _), (1, _)] (fun i => [(5, .int .i64 (i : Int))]) (fun i => S.set id (tapeO (laids (rs ++ l.take i)) k)) (fun i => i ≤ l.length) (fun i => l.length - i) (0) (.keep rfl (.keep rfl (.nil))) (.keep rfl (.nil)) (by omega) (by rw [List.take_zero, List.append_nil]; exact (set_self_ h).symm) ?_
  rintro i hi
  refine mwp_seq ?_
  refine mwp_seq ?_
  refine mwp_region rfl ?_   -- region 2
  refine wOps_op rfl (op_move rfl rfl ?_)   -- t6 ← move tmp 5
  refine wOps_op rfl (op_move rfl rfl ?_)   -- t7 ← move tmp 1
  refine wOps_op rfl (op_len_lst rfl Try.underlying22 rfl ?_)   -- t8 ← call ('rec', {'callee': ('app', 'builtin', [('id', 'Go.Builtin.le
  refine wOps_op rfl (op_cmp rfl rfl rfl rfl ?_)   -- t9 ← binOp lss 3 tmp 6 tmp 8 3
  refine wOps_nil ?_
  refine mwp_cond_split rfl (fun h9 => ?_) (fun h9 => ?_)   -- if t9
  · -- yes
    have hlt : i < l.length := by simpa using h9
    obtain ⟨r, hs⟩ : ∃ q_, l[i]? = some q_ := ⟨_, List.getElem?_eq_getElem hlt⟩
    have hrl := hl r (List.mem_of_getElem? hs)
    have hfi := laids_fit (rs := rs) hs
    refine mwp_skip ?_
    refine mwp_seq ?_
    refine mwp_block ?_   -- block 1
    refine mwp_seq ?_
    refine mwp_region rfl ?_   -- region 4
    refine wOps_op rfl (op_move rfl rfl ?_)   -- t12 ← move tmp 0
    refine wOps_op rfl (op_move rfl rfl ?_)   -- t13 ← move tmp 1
    refine wOps_op rfl (op_move rfl rfl ?_)   -- t14 ← move tmp 5
    refine wOps_op rfl (op_indexAddr rfl Try.underlying22 sz9 (by decide) rfl rfl rfl (get_map hs) ?_)   -- t15 ← indexAddr 22 tmp 13 tmp 14
    refine wOps_op rfl (op_load_sptr rfl rfl ta9 rfl ?_)   -- t16 ← load 9 tmp 15
    refine wOps_op rfl (op_call rfl rfl rfl co15 ((add_spec id (laids (rs ++ l.take i)) k _ (get_set h) (by omega) r (by omega) (by omega)).mono ?_))   -- t17 ← call ('rec', {'callee': ('app', 'value', [('app', 'func', [15])])
    rintro _ _ ⟨rfl, rfl⟩
    refine wOps_op rfl (op_if0 rfl Try.underlying34 rfl rfl (.inr ⟨rfl, rfl⟩) ?_)   -- t18 ← binOp neq 34 tmp 17 const nilIface 34
    refine wOps_nil ?_
    refine mwp_cond_f rfl (rfl) ?_   -- if t18
    refine mwp_skip ?_
    refine mwp_region rfl ?_   -- region 3
    refine wOps_op rfl (op_move rfl rfl ?_)   -- t10 ← move tmp 5
    refine wOps_op rfl (op_arith rfl rfl rfl rfl ?_)   -- t11 ← binOp add 3 tmp 10 const int i64 1 3
    refine wOps_op rfl (op_assign rfl rfl ?_)   -- t5 ← assign tmp 11
    refine wOps_nil ?_
    refine ⟨i + 1, by omega, by omega, by rw [set_set, ← laidsS hs]; rfl, (.keep rfl (.keep rfl (.nil))), (.eq rfl (int_succ hlt hlen) (.nil))⟩
  · -- no
    have hge : i = l.length := by simp at h9; omega
    refine mwp_facts fun hcv hcl => ?_
    rw [hge, List.take_length] at hcl ⊢
    refine mwp_exit ?_
    refine mwp_seq ?_
    refine mwp_region rfl ?_   -- region 6
    refine wOps_op rfl (op_assign rfl rfl ?_)   -- t4 ← assign const bool true
    refine wOps_nil ?_
    refine mwp_ret ?_
    exact ret_tmpT (S' := S.set id (tapeO (laids (rs ++ l)) k)) (.inr rfl) Try.results9 rfl (.refl _) (.bool _) (by simp) hcl ⟨rfl, rfl⟩

theorem known_len : (laids [[97, 98]]).length = 11 ∧ (laids ([[97, 98]] ++ [[99, 100]])).length = 22 := by
  rw [laids_append, List.length_append, laids_one, laids_one, laidB_len, laidB_len]
  have e : (numB 2).length = 1 := by rw [numB_last (by omega)]; rfl
  simp [e]


theorem knownT_spec : MCalls Try.prog 6 [] [] fun v σ' => v = .bool true ∧ σ' = [] := by
  refine mcalls_body Try.func6 rfl Try.ntmps6 (Nat.le_of_ble_eq_true rfl) ?_
  obtain ⟨hl1, hl2⟩ := known_len
  have hk1 : ([] : Bs).length + (laidB [97, 98]).length ≤ 100000 := by rw [← laids_one, hl1]; decide
  have hk2 : (laids [[97, 98]]).length + (laidB [99, 100]).length ≤ 100000 := by have := hl2; rw [laids_append, List.length_append, laids_one (r := [99, 100])] at this; omega
  have hk3 : ¬ (laids [[97, 98]]).length + (laidB (List.replicate 100000 0)).length ≤ 100000 := by rw [laidB_len, List.length_replicate]; omega
  have hk4 : (laids ([[97, 98]] ++ [[99, 100]])).take 21 = (laids ([[97, 98]] ++ [[99, 100]])).take ((laids [[97, 98]]).length + min (10 : Int).toNat ((laids ([[97, 98]] ++ [[99, 100]])).length - (laids [[97, 98]]).length)) := by rw [hl1, hl2]; rfl
  have hk5 : tapeO (((laids ([[97, 98]] ++ [[99, 100]])).take 21).take (endJ (recsF ((laids ([[97, 98]] ++ [[99, 100]])).take 21)) (recsF ((laids ([[97, 98]] ++ [[99, 100]])).take 21)).length)) (endJ (recsF ((laids ([[97, 98]] ++ [[99, 100]])).take 21)) (recsF ((laids ([[97, 98]] ++ [[99, 100]])).take 21)).length) = tapeO (laids [[97, 98]]) (laids [[97, 98]]).length := by
    obtain ⟨j, h1, h2, h3, h4, h5⟩ := crash_laids (rs := [[97, 98]] ++ [[99, 100]]) (by simp) 21
    have h6 := h5 1 (by simp) (by show (laids [[97, 98]]).length ≤ 21; omega)
    have h7 : j = 1 := by
      have h8 := h4 (by omega)
      have : j ≤ 2 := h1
      rcases Nat.lt_or_ge j 2 with h | h
      · omega
      · have : j = 2 := by omega
        subst this
        exact absurd h8 (by show ¬ (laids ([[97, 98]] ++ [[99, 100]])).length ≤ 21; omega)
    subst h7
    rw [h2, h3]
    rfl
  refine mwp_seq ?_
  refine mwp_region rfl ?_   -- region 0
  refine wOps_op rfl (op_assign rfl rfl ?_)   -- t0 ← assign const bool false
  refine wOps_nil ?_
  refine mwp_seq ?_
  refine mwp_region rfl ?_   -- region 1
  refine wOps_op rfl (op_call rfl rfl rfl co8 ((new_spec _).mono ?_))   -- t6 ← call ('rec', {'callee': ('app', 'value', [('app', 'func', [8])]),
  rintro _ _ ⟨rfl, rfl⟩
  refine wOps_st ([] ++ [tapeO [] 0]) rfl ?_
  refine wOps_op rfl (op_assign rfl rfl ?_)   -- t1 ← assign tmp 6
  refine wOps_nil ?_
  refine mwp_seq ?_
  refine mwp_seq ?_
  refine mwp_region rfl ?_   -- region 2
  refine wOps_op rfl (op_move rfl rfl ?_)   -- t7 ← move tmp 1
  refine wOps_op rfl (op_ptrnil rfl Try.underlying25 rfl rfl rfl (.inl ⟨rfl, rfl⟩) ?_)   -- t8 ← binOp eql 25 tmp 7 const pointer none 25
  refine wOps_nil ?_
  refine mwp_cond_f rfl (rfl) ?_   -- if t8
  refine mwp_skip ?_
  refine mwp_seq ?_
  refine mwp_region rfl ?_   -- region 4
  refine wOps_op rfl (op_move rfl rfl ?_)   -- t9 ← move tmp 1
  refine wOps_op rfl (op_call rfl rfl rfl co15 ((add_spec 0 [] 0 _ rfl (by decide) [97, 98] (by decide) hk1).mono ?_))   -- t10 ← call ('rec', {'callee': ('app', 'value', [('app', 'func', [15])])
  rintro _ _ ⟨rfl, rfl⟩
  refine wOps_st ([] ++ [tapeO (laidB [97, 98]) 0]) rfl ?_
  rw [← laids_one (r := [97, 98])]
  refine wOps_op rfl (op_assign rfl rfl ?_)   -- t2 ← assign tmp 10
  refine wOps_nil ?_
  refine mwp_seq ?_
  refine mwp_region rfl ?_   -- region 5
  refine wOps_op rfl (op_move rfl rfl ?_)   -- t11 ← move tmp 1
  refine wOps_op rfl (op_call rfl rfl rfl co10 ((sync_spec 0 (laids [[97, 98]]) 0 _ rfl).mono ?_))   -- t12 ← call ('rec', {'callee': ('app', 'value', [('app', 'func', [10])])
  rintro _ _ ⟨rfl, rfl⟩
  refine wOps_st ([] ++ [tapeO (laids [[97, 98]]) (laids [[97, 98]]).length]) rfl ?_
  refine wOps_nil ?_
  refine mwp_seq ?_
  refine mwp_region rfl ?_   -- region 6
  refine wOps_op rfl (op_move rfl rfl ?_)   -- t13 ← move tmp 1
  refine wOps_op rfl (op_call rfl rfl rfl co15 ((add_spec 0 (laids [[97, 98]]) (laids [[97, 98]]).length _ rfl (by omega) [99, 100] (by decide) hk2).mono ?_))   -- t14 ← call ('rec', {'callee': ('app', 'value', [('app', 'func', [15])])
  rintro _ _ ⟨rfl, rfl⟩
  refine wOps_st ([] ++ [tapeO (laids [[97, 98]] ++ laidB [99, 100]) (laids [[97, 98]]).length]) rfl ?_
  rw [← laids_one (r := [99, 100]), ← laids_append]
  refine wOps_op rfl (op_assign rfl rfl ?_)   -- t3 ← assign tmp 14
  refine wOps_nil ?_
  refine mwp_seq ?_
  refine mwp_region rfl ?_   -- region 7
  refine wOps_op rfl (op_move rfl rfl ?_)   -- t15 ← move tmp 1
  refine wOps_op rfl (op_call rfl rfl rfl co14 ((loose_spec 0 (laids ([[97, 98]] ++ [[99, 100]])) (laids [[97, 98]]).length _ rfl (by omega) (by omega)).mono ?_))   -- t16 ← call ('rec', {'callee': ('app', 'value', [('app', 'func', [14])])
  rintro _ _ ⟨rfl, rfl⟩
  rw [show (laids ([[97, 98]] ++ [[99, 100]])).length - (laids [[97, 98]]).length = 11 by omega]
  refine wOps_op rfl (op_assign rfl rfl ?_)   -- t4 ← assign tmp 16
  refine wOps_nil ?_
  refine mwp_seq ?_
  refine mwp_region rfl ?_   -- region 8
  refine wOps_op rfl (op_move rfl rfl ?_)   -- t17 ← move tmp 1
  refine wOps_op rfl (op_move rfl rfl ?_)   -- t18 ← move tmp 4
  refine wOps_op rfl (op_arith rfl rfl rfl (show intArith .sub .i64 ((11 : Nat) : Int) 1 = some 10 from rfl) ?_)   -- t19 ← binOp sub 3 tmp 18 const int i64 1 3
  refine wOps_op rfl (op_call rfl rfl rfl co11 ((crash_spec 0 (laids ([[97, 98]] ++ [[99, 100]])) (laids [[97, 98]]).length _ rfl (by omega) (by omega) 10 rfl ((laids ([[97, 98]] ++ [[99, 100]])).take 21) hk4).mono ?_))   -- t20 ← call ('rec', {'callee': ('app', 'value', [('app', 'func', [11])])
  rintro _ _ ⟨rfl, rfl⟩
  refine wOps_st ([] ++ [tapeO (((laids ([[97, 98]] ++ [[99, 100]])).take 21).take (endJ (recsF ((laids ([[97, 98]] ++ [[99, 100]])).take 21)) (recsF ((laids ([[97, 98]] ++ [[99, 100]])).take 21)).length)) (endJ (recsF ((laids ([[97, 98]] ++ [[99, 100]])).take 21)) (recsF ((laids ([[97, 98]] ++ [[99, 100]])).take 21)).length)]) rfl ?_
  rw [hk5]
  refine wOps_nil ?_
  refine mwp_seq ?_
  refine mwp_region rfl ?_   -- region 9
  refine wOps_op rfl (op_move rfl rfl ?_)   -- t21 ← move tmp 1
  refine wOps_op rfl (op_makeSlice1 rfl Try.underlying37 el5 zm5 rfl rfl rfl (by decide) (by decide) rfl ?_)   -- t22 ← makeSlice 37 const int i64 100000 const int i64 100000
  refine wOps_op rfl (op_conv_bytes (l := List.replicate 100000 0) rfl Try.underlying37 Try.underlying5 Try.underlying9 rfl (by rw [List.map_replicate]; rfl) ?_)   -- t23 ← convert 37 9 tmp 22
  refine wOps_op rfl (op_call rfl rfl rfl co15 ((addFull_spec 0 (laids [[97, 98]]) (laids [[97, 98]]).length _ rfl (by omega) (List.replicate 100000 0) (by rw [List.length_replicate]; omega) hk3).mono ?_))   -- t24 ← call ('rec', {'callee': ('app', 'value', [('app', 'func', [15])])
  rintro _ _ ⟨rfl, rfl⟩
  refine wOps_op rfl (op_assign rfl rfl ?_)   -- t5 ← assign tmp 24
  refine wOps_nil ?_
  refine mwp_seq ?_
  refine mwp_region rfl ?_   -- region 10
  refine wOps_op rfl (op_move rfl rfl ?_)   -- t25 ← move tmp 2
  refine wOps_op rfl (op_if0 rfl Try.underlying34 rfl rfl (.inl ⟨rfl, rfl⟩) ?_)   -- t26 ← binOp eql 34 tmp 25 const nilIface 34
  refine wOps_op rfl (op_move rfl rfl ?_)   -- t27 ← move tmp 26
  refine wOps_op rfl (op_move rfl rfl ?_)   -- t28 ← move tmp 3  GUARD
  refine wOps_op rfl (op_if0 rfl Try.underlying34 rfl rfl (.inl ⟨rfl, rfl⟩) ?_)   -- t29 ← binOp eql 34 tmp 28 const nilIface 34  GUARD
  refine wOps_op rfl (op_pick rfl rfl rfl ?_)   -- t30 ← pick tmp 27 tmp 29 const bool false
  refine wOps_op rfl (op_move rfl rfl ?_)   -- t31 ← move tmp 30
  refine wOps_op rfl (op_move rfl rfl ?_)   -- t32 ← move tmp 4  GUARD
  refine wOps_op rfl (op_cmp rfl rfl rfl (rfl) ?_)   -- t33 ← binOp eql 3 tmp 32 const int i64 11 3  GUARD
  refine wOps_op rfl (op_pick rfl rfl rfl ?_)   -- t34 ← pick tmp 31 tmp 33 const bool false
  refine wOps_op rfl (op_move rfl rfl ?_)   -- t35 ← move tmp 34
  refine wOps_op rfl (op_move rfl rfl ?_)   -- t36 ← move tmp 1  GUARD
  refine wOps_op rfl (op_call rfl rfl rfl co21 ((len_spec 0 (laids [[97, 98]]) (laids [[97, 98]]).length _ rfl).mono ?_))   -- t37 ← call ('rec', {'callee': ('app', 'value', [('app', 'func', [21])])  GUARD
  rintro _ _ ⟨rfl, rfl⟩
  refine wOps_op rfl (op_cmp rfl rfl rfl (cmpE (by rw [hl1]; rfl)) ?_)   -- t38 ← binOp eql 3 tmp 37 const int i64 11 3  GUARD
  refine wOps_op rfl (op_pick rfl rfl rfl ?_)   -- t39 ← pick tmp 35 tmp 38 const bool false
  refine wOps_op rfl (op_move rfl rfl ?_)   -- t40 ← move tmp 39
  refine wOps_op rfl (op_move rfl rfl ?_)   -- t41 ← move tmp 1  GUARD
  refine wOps_op rfl (op_call rfl rfl rfl co12 ((recordsL_spec 0 (laids [[97, 98]]) (laids [[97, 98]]).length _ rfl (by omega)).mono ?_))   -- t42 ← call ('rec', {'callee': ('app', 'value', [('app', 'func', [12])])  GUARD
  rintro _ _ ⟨rfl, rfl⟩
  rw [recs_laids (by simp)]
  refine wOps_op rfl (op_buildSlice rfl Try.underlying22 el9 rfl rfl (by decide) (by decide) rfl rfl ?_)   -- t43 ← buildSlice 22 1 [(0,const string ('rec', {'data': ('arr', [97, 98])}))  GUARD
  refine wOps_op rfl (op_call rfl rfl rfl co13 ((sameTexts_spec [[97, 98]] [[97, 98]] _).mono ?_))   -- t44 ← call ('rec', {'callee': ('app', 'value', [('app', 'func', [13])])  GUARD
  rintro _ _ ⟨rfl, rfl⟩
  rw [decide_eq_true rfl]
  refine wOps_op rfl (op_pick rfl rfl rfl ?_)   -- t45 ← pick tmp 40 tmp 44 const bool false
  refine wOps_op rfl (op_move rfl rfl ?_)   -- t46 ← move tmp 45
  refine wOps_op rfl (op_move rfl rfl ?_)   -- t47 ← move tmp 5  GUARD
  refine wOps_op rfl (op_makeInterface rfl rfl Try.underlying45 (by simp) ?_)   -- t48 ← makeInterface 45 const int i64 15  GUARD
  refine wOps_op rfl (op_call rfl rfl rfl co22 ((errIs_spec 15 _).mono ?_))   -- t49 ← call ('rec', {'callee': ('app', 'value', [('app', 'func', [22])])  GUARD
  rintro _ _ ⟨rfl, rfl⟩
  refine wOps_op rfl (op_pick rfl rfl rfl ?_)   -- t50 ← pick tmp 46 tmp 49 const bool false
  refine wOps_op rfl (op_assign rfl rfl ?_)   -- t0 ← assign tmp 50
  refine wOps_nil ?_
  refine mwp_ret ?_
  exact ret_tmp (.inr rfl) Try.results6 rfl (.of_eq (rfl)) (.bool _) ⟨rfl, rfl⟩

theorem long_no {l : List Bs} (h : (l.any fun s => decide (500 < s.length)) = false) : ∀ r ∈ l, r.length ≤ 500 := fun r hr => by
  have := List.any_eq_false.1 h r hr
  simp at this
  omega


theorem TapeSafe_spec (a b c : List Bs) (n : Int) (hn : IntKind.i64.wrap n = n) : MCalls Try.prog 3 [.lst none 1 (a.map encS), .lst none 1 (b.map encS), .int .i64 n, .lst none 1 (c.map encS)] [] fun v σ' => v = .bool true ∧ σ' = [] := by
  refine mcalls_body Try.func3 rfl Try.ntmps3 (Nat.le_of_ble_eq_true rfl) ?_
  refine mwp_seq ?_
  refine mwp_region rfl ?_   -- region 0
  refine wOps_op rfl (op_assign rfl rfl ?_)   -- t8 ← assign const bool false
  refine wOps_nil ?_
  refine mwp_seq ?_
  refine mwp_seq ?_
  refine mwp_region rfl ?_   -- region 1
  refine wOps_op rfl (op_call rfl rfl rfl co6 ((knownT_spec).mono ?_))   -- t12 ← call ('rec', {'callee': ('app', 'value', [('app', 'func', [6])]),
  rintro _ _ ⟨rfl, rfl⟩
  refine wOps_op rfl (op_not rfl rfl ?_)   -- t13 ← unOp not 4 tmp 12
  refine wOps_nil ?_
  refine mwp_cond_f rfl (rfl) ?_   -- if t13
  refine mwp_skip ?_
  refine mwp_seq ?_
  refine mwp_seq ?_
  refine mwp_region rfl ?_   -- region 3
  refine wOps_op rfl (op_move rfl rfl ?_)   -- t14 ← move tmp 0
  refine wOps_op rfl (op_len_lst rfl Try.underlying22 rfl ?_)   -- t15 ← call ('rec', {'callee': ('app', 'builtin', [('id', 'Go.Builtin.le
  refine wOps_op rfl (op_cmp rfl rfl rfl rfl ?_)   -- t16 ← binOp gtr 3 tmp 15 const int i64 10 3
  refine wOps_op rfl (op_move rfl rfl ?_)   -- t17 ← move tmp 16
  refine wOps_case (fun h17 => ?_) (fun h17 => ?_)
  ·
    refine wOps_skip rfl ?_
    refine wOps_skip rfl ?_
    refine wOps_skip rfl ?_
    refine wOps_op rfl (op_pick rfl rfl rfl ?_)   -- t21 ← pick tmp 17 const bool true tmp 20
    refine wOps_op rfl (op_move rfl rfl ?_)   -- t22 ← move tmp 21
    refine wOps_skip rfl ?_
    refine wOps_skip rfl ?_
    refine wOps_skip rfl ?_
    refine wOps_op rfl (op_pick rfl rfl rfl ?_)   -- t26 ← pick tmp 22 const bool true tmp 25
    refine wOps_op rfl (op_move rfl rfl ?_)   -- t27 ← move tmp 26
    refine wOps_skip rfl ?_
    refine wOps_skip rfl ?_
    refine wOps_op rfl (op_pick rfl rfl rfl ?_)   -- t30 ← pick tmp 27 const bool true tmp 29
    refine wOps_op rfl (op_move rfl rfl ?_)   -- t31 ← move tmp 30
    refine wOps_skip rfl ?_
    refine wOps_skip rfl ?_
    refine wOps_op rfl (op_pick rfl rfl rfl ?_)   -- t34 ← pick tmp 31 const bool true tmp 33
    refine wOps_op rfl (op_move rfl rfl ?_)   -- t35 ← move tmp 34
    refine wOps_skip rfl ?_
    refine wOps_skip rfl ?_
    refine wOps_op rfl (op_pick rfl rfl rfl ?_)   -- t38 ← pick tmp 35 const bool true tmp 37
    refine wOps_nil ?_
    refine mwp_cond_t rfl (rfl) ?_   -- if t38
    refine mwp_seq ?_
    refine mwp_region rfl ?_   -- region 4
    refine wOps_op rfl (op_assign rfl rfl ?_)   -- t8 ← assign const bool true
    refine wOps_nil ?_
    refine mwp_ret ?_
    exact ret_tmp (.inr rfl) Try.results3 rfl (.of_eq (rfl)) (.bool _) ⟨rfl, rfl⟩
  ·
    refine wOps_op rfl (op_move rfl rfl ?_)   -- t18 ← move tmp 1  GUARD
    refine wOps_op rfl (op_len_lst rfl Try.underlying22 rfl ?_)   -- t19 ← call ('rec', {'callee': ('app', 'builtin', [('id', 'Go.Builtin.le  GUARD
    refine wOps_op rfl (op_cmp rfl rfl rfl rfl ?_)   -- t20 ← binOp gtr 3 tmp 19 const int i64 10 3  GUARD
    refine wOps_op rfl (op_pick rfl rfl rfl ?_)   -- t21 ← pick tmp 17 const bool true tmp 20
    refine wOps_op rfl (op_move rfl rfl ?_)   -- t22 ← move tmp 21
    refine wOps_case (fun h22 => ?_) (fun h22 => ?_)
    ·
      refine wOps_skip rfl ?_
      refine wOps_skip rfl ?_
      refine wOps_skip rfl ?_
      refine wOps_op rfl (op_pick rfl rfl rfl ?_)   -- t26 ← pick tmp 22 const bool true tmp 25
      refine wOps_op rfl (op_move rfl rfl ?_)   -- t27 ← move tmp 26
      refine wOps_skip rfl ?_
      refine wOps_skip rfl ?_
      refine wOps_op rfl (op_pick rfl rfl rfl ?_)   -- t30 ← pick tmp 27 const bool true tmp 29
      refine wOps_op rfl (op_move rfl rfl ?_)   -- t31 ← move tmp 30
      refine wOps_skip rfl ?_
      refine wOps_skip rfl ?_
      refine wOps_op rfl (op_pick rfl rfl rfl ?_)   -- t34 ← pick tmp 31 const bool true tmp 33
      refine wOps_op rfl (op_move rfl rfl ?_)   -- t35 ← move tmp 34
      refine wOps_skip rfl ?_
      refine wOps_skip rfl ?_
      refine wOps_op rfl (op_pick rfl rfl rfl ?_)   -- t38 ← pick tmp 35 const bool true tmp 37
      refine wOps_nil ?_
      refine mwp_cond_t rfl (rfl) ?_   -- if t38
      refine mwp_seq ?_
      refine mwp_region rfl ?_   -- region 4
      refine wOps_op rfl (op_assign rfl rfl ?_)   -- t8 ← assign const bool true
      refine wOps_nil ?_
      refine mwp_ret ?_
      exact ret_tmp (.inr rfl) Try.results3 rfl (.of_eq (rfl)) (.bool _) ⟨rfl, rfl⟩
    ·
      refine wOps_op rfl (op_move rfl rfl ?_)   -- t23 ← move tmp 3  GUARD
      refine wOps_op rfl (op_len_lst rfl Try.underlying22 rfl ?_)   -- t24 ← call ('rec', {'callee': ('app', 'builtin', [('id', 'Go.Builtin.le  GUARD
      refine wOps_op rfl (op_cmp rfl rfl rfl rfl ?_)   -- t25 ← binOp gtr 3 tmp 24 const int i64 10 3  GUARD
      refine wOps_op rfl (op_pick rfl rfl rfl ?_)   -- t26 ← pick tmp 22 const bool true tmp 25
      refine wOps_op rfl (op_move rfl rfl ?_)   -- t27 ← move tmp 26
      refine wOps_case (fun h27 => ?_) (fun h27 => ?_)
      ·
        refine wOps_skip rfl ?_
        refine wOps_skip rfl ?_
        refine wOps_op rfl (op_pick rfl rfl rfl ?_)   -- t30 ← pick tmp 27 const bool true tmp 29
        refine wOps_op rfl (op_move rfl rfl ?_)   -- t31 ← move tmp 30
        refine wOps_skip rfl ?_
        refine wOps_skip rfl ?_
        refine wOps_op rfl (op_pick rfl rfl rfl ?_)   -- t34 ← pick tmp 31 const bool true tmp 33
        refine wOps_op rfl (op_move rfl rfl ?_)   -- t35 ← move tmp 34
        refine wOps_skip rfl ?_
        refine wOps_skip rfl ?_
        refine wOps_op rfl (op_pick rfl rfl rfl ?_)   -- t38 ← pick tmp 35 const bool true tmp 37
        refine wOps_nil ?_
        refine mwp_cond_t rfl (rfl) ?_   -- if t38
        refine mwp_seq ?_
        refine mwp_region rfl ?_   -- region 4
        refine wOps_op rfl (op_assign rfl rfl ?_)   -- t8 ← assign const bool true
        refine wOps_nil ?_
        refine mwp_ret ?_
        exact ret_tmp (.inr rfl) Try.results3 rfl (.of_eq (rfl)) (.bool _) ⟨rfl, rfl⟩
      ·
        refine wOps_op rfl (op_move rfl rfl ?_)   -- t28 ← move tmp 0  GUARD
        refine wOps_op rfl (op_call rfl rfl rfl co7 ((long_spec a _).mono ?_))   -- t29 ← call ('rec', {'callee': ('app', 'value', [('app', 'func', [7])]),  GUARD
        rintro _ _ ⟨rfl, rfl⟩
        refine wOps_op rfl (op_pick rfl rfl rfl ?_)   -- t30 ← pick tmp 27 const bool true tmp 29
        refine wOps_op rfl (op_move rfl rfl ?_)   -- t31 ← move tmp 30
        refine wOps_case (fun h31 => ?_) (fun h31 => ?_)
        ·
          refine wOps_skip rfl ?_
          refine wOps_skip rfl ?_
          refine wOps_op rfl (op_pick rfl rfl rfl ?_)   -- t34 ← pick tmp 31 const bool true tmp 33
          refine wOps_op rfl (op_move rfl rfl ?_)   -- t35 ← move tmp 34
          refine wOps_skip rfl ?_
          refine wOps_skip rfl ?_
          refine wOps_op rfl (op_pick rfl rfl rfl ?_)   -- t38 ← pick tmp 35 const bool true tmp 37
          refine wOps_nil ?_
          refine mwp_cond_t rfl (rfl) ?_   -- if t38
          refine mwp_seq ?_
          refine mwp_region rfl ?_   -- region 4
          refine wOps_op rfl (op_assign rfl rfl ?_)   -- t8 ← assign const bool true
          refine wOps_nil ?_
          refine mwp_ret ?_
          exact ret_tmp (.inr rfl) Try.results3 rfl (.of_eq (rfl)) (.bool _) ⟨rfl, rfl⟩
        ·
          refine wOps_op rfl (op_move rfl rfl ?_)   -- t32 ← move tmp 1  GUARD
          refine wOps_op rfl (op_call rfl rfl rfl co7 ((long_spec b _).mono ?_))   -- t33 ← call ('rec', {'callee': ('app', 'value', [('app', 'func', [7])]),  GUARD
          rintro _ _ ⟨rfl, rfl⟩
          refine wOps_op rfl (op_pick rfl rfl rfl ?_)   -- t34 ← pick tmp 31 const bool true tmp 33
          refine wOps_op rfl (op_move rfl rfl ?_)   -- t35 ← move tmp 34
          refine wOps_case (fun h35 => ?_) (fun h35 => ?_)
          ·
            refine wOps_skip rfl ?_
            refine wOps_skip rfl ?_
            refine wOps_op rfl (op_pick rfl rfl rfl ?_)   -- t38 ← pick tmp 35 const bool true tmp 37
            refine wOps_nil ?_
            refine mwp_cond_t rfl (rfl) ?_   -- if t38
            refine mwp_seq ?_
            refine mwp_region rfl ?_   -- region 4
            refine wOps_op rfl (op_assign rfl rfl ?_)   -- t8 ← assign const bool true
            refine wOps_nil ?_
            refine mwp_ret ?_
            exact ret_tmp (.inr rfl) Try.results3 rfl (.of_eq (rfl)) (.bool _) ⟨rfl, rfl⟩
          ·
            refine wOps_op rfl (op_move rfl rfl ?_)   -- t36 ← move tmp 3  GUARD
            refine wOps_op rfl (op_call rfl rfl rfl co7 ((long_spec c _).mono ?_))   -- t37 ← call ('rec', {'callee': ('app', 'value', [('app', 'func', [7])]),  GUARD
            rintro _ _ ⟨rfl, rfl⟩
            refine wOps_op rfl (op_pick rfl rfl rfl ?_)   -- t38 ← pick tmp 35 const bool true tmp 37
            refine wOps_nil ?_
            refine mwp_cond_split rfl (fun h38 => ?_) (fun h38 => ?_)   -- if t38
            · -- yes
              refine mwp_seq ?_
              refine mwp_region rfl ?_   -- region 4
              refine wOps_op rfl (op_assign rfl rfl ?_)   -- t8 ← assign const bool true
              refine wOps_nil ?_
              refine mwp_ret ?_
              exact ret_tmp (.inr rfl) Try.results3 rfl (.of_eq (rfl)) (.bool _) ⟨rfl, rfl⟩
            · -- no
              refine mwp_skip ?_
              refine mwp_seq ?_
              have la : a.length ≤ 10 := by simp at h17; omega
              have lb : b.length ≤ 10 := by simp at h22; omega
              have lc : c.length ≤ 10 := by simp at h27; omega
              have ha := long_no h31
              have hb := long_no h35
              have hc := long_no h38
              have fa := laids_le ha
              have fb := laids_le hb
              have fc := laids_le hc
              have fab : (laids (a ++ b)).length = (laids a).length + (laids b).length := by rw [laids_append, List.length_append]
              refine mwp_region rfl ?_   -- region 5
              refine wOps_op rfl (op_call rfl rfl rfl co8 ((new_spec _).mono ?_))   -- t39 ← call ('rec', {'callee': ('app', 'value', [('app', 'func', [8])]),
              rintro _ _ ⟨rfl, rfl⟩
              refine wOps_st ([] ++ [tapeO (laids []) 0]) rfl ?_
              refine wOps_op rfl (op_assign rfl rfl ?_)   -- t9 ← assign tmp 39
              refine wOps_nil ?_
              refine mwp_seq ?_
              refine mwp_seq ?_
              refine mwp_region rfl ?_   -- region 6
              refine wOps_op rfl (op_move rfl rfl ?_)   -- t40 ← move tmp 9
              refine wOps_op rfl (op_move rfl rfl ?_)   -- t41 ← move tmp 0
              refine wOps_op rfl (op_call rfl rfl rfl co9 ((adds_spec 0 [] a 0 _ rfl ha (by simp only [laids, List.flatMap_nil, List.length_nil]; have : (laids a).length = (a.flatMap laidB).length := rfl; omega)).mono ?_))   -- t42 ← call ('rec', {'callee': ('app', 'value', [('app', 'func', [9])]),
              rintro _ _ ⟨rfl, rfl⟩
              refine wOps_st ([] ++ [tapeO (laids a) 0]) rfl ?_
              refine wOps_op rfl (op_not rfl rfl ?_)   -- t43 ← unOp not 4 tmp 42
              refine wOps_nil ?_
              refine mwp_cond_f rfl (rfl) ?_   -- if t43
              refine mwp_skip ?_
              refine mwp_seq ?_
              refine mwp_region rfl ?_   -- region 8
              refine wOps_op rfl (op_move rfl rfl ?_)   -- t44 ← move tmp 9
              refine wOps_op rfl (op_call rfl rfl rfl co10 ((sync_spec 0 (laids a) 0 _ rfl).mono ?_))   -- t45 ← call ('rec', {'callee': ('app', 'value', [('app', 'func', [10])])
              rintro _ _ ⟨rfl, rfl⟩
              refine wOps_st ([] ++ [tapeO (laids a) (laids a).length]) rfl ?_
              refine wOps_nil ?_
              refine mwp_seq ?_
              refine mwp_seq ?_
              refine mwp_region rfl ?_   -- region 9
              refine wOps_op rfl (op_move rfl rfl ?_)   -- t46 ← move tmp 9
              refine wOps_op rfl (op_move rfl rfl ?_)   -- t47 ← move tmp 1
              refine wOps_op rfl (op_call rfl rfl rfl co9 ((adds_spec 0 a b (laids a).length _ rfl hb (by omega)).mono ?_))   -- t48 ← call ('rec', {'callee': ('app', 'value', [('app', 'func', [9])]),
              rintro _ _ ⟨rfl, rfl⟩
              refine wOps_st ([] ++ [tapeO (laids (a ++ b)) (laids a).length]) rfl ?_
              refine wOps_op rfl (op_not rfl rfl ?_)   -- t49 ← unOp not 4 tmp 48
              refine wOps_nil ?_
              refine mwp_cond_f rfl (rfl) ?_   -- if t49
              refine mwp_skip ?_
              refine mwp_seq ?_
              obtain ⟨x, hx⟩ : ∃ x, x = (laids a).length + min n.toNat ((laids (a ++ b)).length - (laids a).length) := ⟨_, rfl⟩
              have hab : ∀ r ∈ a ++ b, r.length ≤ 500 := fun r hr => (List.mem_append.1 hr).elim (ha r) (hb r)
              obtain ⟨j, h1, h2, h3, h4, h5⟩ := crash_laids (rs := a ++ b) (fun r hr => by have := hab r hr; omega) x
              obtain ⟨l, hl⟩ : ∃ l, l = (a ++ b).take j := ⟨_, rfl⟩
              rw [← hl] at h2 h3
              have haj : a.length ≤ j := h5 a.length (by simp) (by rw [List.take_left' rfl, hx]; omega)
              have hll : l.length = j := by rw [hl, List.length_take]; omega
              have htl : (a ++ b).take l.length = l := by rw [hll, hl]
              have hlm : ∀ r ∈ l, r.length < 2097152 := fun r hr => by have := hab r (by rw [hl] at hr; exact List.mem_of_mem_take hr); omega
              have fl : (laids l).length ≤ (laids (a ++ b)).length := by rw [← h2]; simp only [List.length_take]; omega
              rw [List.length_append] at h1
              refine mwp_region rfl ?_   -- region 11
              refine wOps_op rfl (op_move rfl rfl ?_)   -- t50 ← move tmp 9
              refine wOps_op rfl (op_move rfl rfl ?_)   -- t51 ← move tmp 2
              refine wOps_op rfl (op_call rfl rfl rfl co11 ((crash_spec 0 (laids (a ++ b)) (laids a).length _ rfl (by omega) (by omega) n hn ((laids (a ++ b)).take x) (by rw [hx])).mono ?_))   -- t52 ← call ('rec', {'callee': ('app', 'value', [('app', 'func', [11])])
              rintro _ _ ⟨rfl, rfl⟩
              refine wOps_st ([] ++ [tapeO (((laids (a ++ b)).take x).take (endJ (recsF ((laids (a ++ b)).take x)) (recsF ((laids (a ++ b)).take x)).length)) (endJ (recsF ((laids (a ++ b)).take x)) (recsF ((laids (a ++ b)).take x)).length)]) rfl ?_
              rw [h2, h3]
              refine wOps_nil ?_
              refine mwp_seq ?_
              refine mwp_region rfl ?_   -- region 12
              refine wOps_op rfl (op_move rfl rfl ?_)   -- t53 ← move tmp 9
              refine wOps_op rfl (op_call rfl rfl rfl co12 ((recordsL_spec 0 (laids l) (laids l).length _ rfl (by omega)).mono ?_))   -- t54 ← call ('rec', {'callee': ('app', 'value', [('app', 'func', [12])])
              rintro _ _ ⟨rfl, rfl⟩
              rw [recs_laids hlm]
              refine wOps_op rfl (op_assign rfl rfl ?_)   -- t10 ← assign tmp 54
              refine wOps_nil ?_
              refine mwp_seq ?_
              refine mwp_region rfl ?_   -- region 13
              refine wOps_op rfl (op_move rfl rfl ?_)   -- t55 ← move tmp 0
              refine wOps_op rfl (op_append0' rfl Try.underlying22 el9 rfl rfl (by rw [List.length_map]; omega) (by rw [List.length_map]; omega) rfl rfl ?_)   -- t56 ← call ('rec', {'callee': ('app', 'builtin', [('id', 'Go.Builtin.ap
              refine wOps_op rfl (op_move rfl rfl ?_)   -- t57 ← move tmp 1
              refine wOps_op rfl (op_append' rfl Try.underlying22 el9 rfl rfl rfl (by simp) (by simp only [List.length_map]; omega) (by simp only [List.length_map]; omega) rfl ?_)   -- t58 ← call ('rec', {'callee': ('app', 'builtin', [('id', 'Go.Builtin.ap
              refine wOps_op rfl (op_assign rfl rfl ?_)   -- t11 ← assign tmp 58
              refine wOps_nil ?_
              refine mwp_seq ?_
              refine mwp_seq ?_
              refine mwp_region rfl ?_   -- region 14
              refine wOps_op rfl (op_move rfl rfl ?_)   -- t59 ← move tmp 10
              refine wOps_op rfl (op_len_lst rfl Try.underlying22 rfl ?_)   -- t60 ← call ('rec', {'callee': ('app', 'builtin', [('id', 'Go.Builtin.le
              refine wOps_op rfl (op_move rfl rfl ?_)   -- t61 ← move tmp 0
              refine wOps_op rfl (op_len_lst rfl Try.underlying22 rfl ?_)   -- t62 ← call ('rec', {'callee': ('app', 'builtin', [('id', 'Go.Builtin.le
              refine wOps_op rfl (op_cmp rfl rfl rfl (cmpN (by simp only [List.length_map]; omega)) ?_)   -- t63 ← binOp lss 3 tmp 60 tmp 62 3
              refine wOps_op rfl (op_move rfl rfl ?_)   -- t64 ← move tmp 63
              refine wOps_op rfl (op_move rfl rfl ?_)   -- t65 ← move tmp 10  GUARD
              refine wOps_op rfl (op_len_lst rfl Try.underlying22 rfl ?_)   -- t66 ← call ('rec', {'callee': ('app', 'builtin', [('id', 'Go.Builtin.le  GUARD
              refine wOps_op rfl (op_move rfl rfl ?_)   -- t67 ← move tmp 11  GUARD
              refine wOps_op rfl (op_len_lst rfl Try.underlying22 rfl ?_)   -- t68 ← call ('rec', {'callee': ('app', 'builtin', [('id', 'Go.Builtin.le  GUARD
              refine wOps_op rfl (op_cmp rfl rfl rfl (cmpG (by simp only [List.length_map, List.length_append]; omega)) ?_)   -- t69 ← binOp gtr 3 tmp 66 tmp 68 3  GUARD
              refine wOps_op rfl (op_pick rfl rfl rfl ?_)   -- t70 ← pick tmp 64 const bool true tmp 69
              refine wOps_op rfl (op_move rfl rfl ?_)   -- t71 ← move tmp 70
              refine wOps_op rfl (op_move rfl rfl ?_)   -- t72 ← move tmp 10  GUARD
              refine wOps_op rfl (op_move rfl rfl ?_)   -- t73 ← move tmp 11  GUARD
              refine wOps_op rfl (op_move rfl rfl ?_)   -- t74 ← move tmp 10  GUARD
              refine wOps_op rfl (op_len_lst rfl Try.underlying22 rfl ?_)   -- t75 ← call ('rec', {'callee': ('app', 'builtin', [('id', 'Go.Builtin.le  GUARD
              refine wOps_op rfl (op_slice rfl Try.underlying22 sz9 rfl .none (.some rfl rfl) (by omega) (by simp only [List.length_map, List.length_append]; omega) ?_)   -- t76 ← slice 22 tmp 73 none some tmp 75 none  GUARD
              rw [show ((a.map encS ++ b.map encS).drop 0).take ((l.map encS).length - 0) = l.map encS by rw [List.drop_zero, ← List.map_append, ← List.map_take, List.length_map, Nat.sub_zero, htl]]
              refine wOps_op rfl (op_call rfl rfl rfl co13 ((sameTexts_spec l l _).mono ?_))   -- t77 ← call ('rec', {'callee': ('app', 'value', [('app', 'func', [13])])  GUARD
              rintro _ _ ⟨rfl, rfl⟩
              rw [decide_eq_true rfl]
              refine wOps_op rfl (op_not rfl rfl ?_)   -- t78 ← unOp not 4 tmp 77  GUARD
              refine wOps_op rfl (op_pick rfl rfl rfl ?_)   -- t79 ← pick tmp 71 const bool true tmp 78
              refine wOps_op rfl (op_move rfl rfl ?_)   -- t80 ← move tmp 79
              refine wOps_op rfl (op_move rfl rfl ?_)   -- t81 ← move tmp 9  GUARD
              refine wOps_op rfl (op_call rfl rfl rfl co14 ((loose_spec 0 (laids l) (laids l).length _ rfl (by omega) (by omega)).mono ?_))   -- t82 ← call ('rec', {'callee': ('app', 'value', [('app', 'func', [14])])  GUARD
              rintro _ _ ⟨rfl, rfl⟩
              refine wOps_op rfl (op_cmp rfl rfl rfl (cmpNe (by rw [Nat.sub_self]; rfl)) ?_)   -- t83 ← binOp neq 3 tmp 82 const int i64 0 3  GUARD
              refine wOps_op rfl (op_pick rfl rfl rfl ?_)   -- t84 ← pick tmp 80 const bool true tmp 83
              refine wOps_op rfl (op_move rfl rfl ?_)   -- t85 ← move tmp 84
              refine wOps_op rfl (op_move rfl rfl ?_)   -- t86 ← move tmp 9  GUARD
              refine wOps_op rfl (op_move rfl rfl ?_)   -- t87 ← move tmp 3  GUARD
              refine wOps_op rfl (op_call rfl rfl rfl co9 ((adds_spec 0 l c (laids l).length _ rfl hc (by omega)).mono ?_))   -- t88 ← call ('rec', {'callee': ('app', 'value', [('app', 'func', [9])]),  GUARD
              rintro _ _ ⟨rfl, rfl⟩
              refine wOps_st ([] ++ [tapeO (laids (l ++ c)) (laids l).length, _]) rfl ?_
              refine wOps_op rfl (op_not rfl rfl ?_)   -- t89 ← unOp not 4 tmp 88  GUARD
              refine wOps_op rfl (op_pick rfl rfl rfl ?_)   -- t90 ← pick tmp 85 const bool true tmp 89
              refine wOps_nil ?_
              refine mwp_cond_f rfl (rfl) ?_   -- if t90
              refine mwp_skip ?_
              refine mwp_seq ?_
              refine mwp_region rfl ?_   -- region 16
              refine wOps_op rfl (op_move rfl rfl ?_)   -- t91 ← move tmp 9
              refine wOps_op rfl (op_call rfl rfl rfl co12 ((recordsL_spec 0 (laids (l ++ c)) (laids l).length _ rfl (by rw [laids_append, List.length_append]; omega)).mono ?_))   -- t92 ← call ('rec', {'callee': ('app', 'value', [('app', 'func', [12])])
              rintro _ _ ⟨rfl, rfl⟩
              rw [recs_laids (fun r hr => (List.mem_append.1 hr).elim (hlm r) fun h => by have := hc r h; omega)]
              refine wOps_op rfl (op_move rfl rfl ?_)   -- t93 ← move tmp 10
              refine wOps_op rfl (op_append0' rfl Try.underlying22 el9 rfl rfl (by rw [List.length_map]; omega) (by rw [List.length_map]; omega) rfl rfl ?_)   -- t94 ← call ('rec', {'callee': ('app', 'builtin', [('id', 'Go.Builtin.ap
              refine wOps_op rfl (op_move rfl rfl ?_)   -- t95 ← move tmp 3
              refine wOps_op rfl (op_append' rfl Try.underlying22 el9 rfl rfl rfl (by simp) (by simp only [List.length_map]; omega) (by simp only [List.length_map]; omega) rfl ?_)   -- t96 ← call ('rec', {'callee': ('app', 'builtin', [('id', 'Go.Builtin.ap
              rw [← List.map_append]
              refine wOps_op rfl (op_call rfl rfl rfl co13 (((sameTexts_spec (l ++ c) (l ++ c) _).sub (.cons (.refl _) (.cons (.view _ _ _) .nil))).mono ?_))   -- t97 ← call ('rec', {'callee': ('app', 'value', [('app', 'func', [13])])
              rintro _ _ ⟨rfl, rfl⟩
              refine wOps_op rfl (op_assign rfl rfl ?_)   -- t8 ← assign tmp 97
              refine wOps_nil ?_
              refine mwp_ret ?_
              exact ret_tmp (.inr rfl) Try.results3 rfl (.of_eq (by rw [decide_eq_true rfl])) (.bool _) ⟨rfl, rfl⟩

theorem TapeTears_spec (a b : Bs) : MCalls Try.prog 4 [.str (bs a), .str (bs b)] [] fun v σ' => v = .bool true ∧ σ' = [] := by
  refine mcalls_body Try.func4 rfl Try.ntmps4 (Nat.le_of_ble_eq_true rfl) ?_
  refine mwp_seq ?_
  refine mwp_region rfl ?_   -- region 0
  refine wOps_op rfl (op_assign rfl rfl ?_)   -- t4 ← assign const bool false
  refine wOps_nil ?_
  refine mwp_seq ?_
  refine mwp_seq ?_
  refine mwp_region rfl ?_   -- region 1
  refine wOps_op rfl (op_call rfl rfl rfl co6 ((knownT_spec).mono ?_))   -- t9 ← call ('rec', {'callee': ('app', 'value', [('app', 'func', [6])]),
  rintro _ _ ⟨rfl, rfl⟩
  refine wOps_op rfl (op_not rfl rfl ?_)   -- t10 ← unOp not 4 tmp 9
  refine wOps_nil ?_
  refine mwp_cond_f rfl (rfl) ?_   -- if t10
  refine mwp_skip ?_
  refine mwp_seq ?_
  refine mwp_seq ?_
  refine mwp_region rfl ?_   -- region 3
  refine wOps_op rfl (op_move rfl rfl ?_)   -- t11 ← move tmp 0
  refine wOps_op rfl (op_len_bs rfl Try.underlying9 rfl ?_)   -- t12 ← call ('rec', {'callee': ('app', 'builtin', [('id', 'Go.Builtin.le
  refine wOps_op rfl (op_cmp rfl rfl rfl rfl ?_)   -- t13 ← binOp gtr 3 tmp 12 const int i64 60 3
  refine wOps_op rfl (op_move rfl rfl ?_)   -- t14 ← move tmp 13
  refine wOps_case (fun h14 => ?_) (fun h14 => ?_)
  ·
    refine wOps_skip rfl ?_
    refine wOps_skip rfl ?_
    refine wOps_skip rfl ?_
    refine wOps_op rfl (op_pick rfl rfl rfl ?_)   -- t18 ← pick tmp 14 const bool true tmp 17
    refine wOps_nil ?_
    refine mwp_cond_t rfl (rfl) ?_   -- if t18
    refine mwp_seq ?_
    refine mwp_region rfl ?_   -- region 4
    refine wOps_op rfl (op_assign rfl rfl ?_)   -- t4 ← assign const bool true
    refine wOps_nil ?_
    refine mwp_ret ?_
    exact ret_tmp (.inr rfl) Try.results4 rfl (.of_eq (rfl)) (.bool _) ⟨rfl, rfl⟩
  ·
    refine wOps_op rfl (op_move rfl rfl ?_)   -- t15 ← move tmp 1  GUARD
    refine wOps_op rfl (op_len_bs rfl Try.underlying9 rfl ?_)   -- t16 ← call ('rec', {'callee': ('app', 'builtin', [('id', 'Go.Builtin.le  GUARD
    refine wOps_op rfl (op_cmp rfl rfl rfl rfl ?_)   -- t17 ← binOp gtr 3 tmp 16 const int i64 60 3  GUARD
    refine wOps_op rfl (op_pick rfl rfl rfl ?_)   -- t18 ← pick tmp 14 const bool true tmp 17
    refine wOps_nil ?_
    refine mwp_cond_split rfl (fun h18 => ?_) (fun h18 => ?_)   -- if t18
    · -- yes
      refine mwp_seq ?_
      refine mwp_region rfl ?_   -- region 4
      refine wOps_op rfl (op_assign rfl rfl ?_)   -- t4 ← assign const bool true
      refine wOps_nil ?_
      refine mwp_ret ?_
      exact ret_tmp (.inr rfl) Try.results4 rfl (.of_eq (rfl)) (.bool _) ⟨rfl, rfl⟩
    · -- no
      refine mwp_skip ?_
      refine mwp_seq ?_
      refine mwp_seq ?_
      have la : a.length ≤ 60 := by simp at h14; omega
      have lb : b.length ≤ 60 := by simp at h18; omega
      have na : (laids [a]).length = a.length + 9 := by rw [laids_one, laidB_len, numB_last (by omega)]; simp; omega
      have nb : (laids [b]).length = b.length + 9 := by rw [laids_one, laidB_len, numB_last (by omega)]; simp; omega
      have nab : (laids ([a] ++ [b])).length = a.length + b.length + 18 := by rw [laids_append, List.length_append]; omega
      have na2 := na
      rw [laids_one] at na2
      have nb2 := nb
      rw [laids_one] at nb2
      refine mwp_region rfl ?_   -- region 5
      refine wOps_op rfl (op_assign rfl rfl ?_)   -- t5 ← assign const int i64 0
      refine wOps_nil ?_
      refine mwp_block ?_   -- block 0
      refine mwp_loopKJ (α := Nat) [(0, _), (1, _)] (fun i => [(5, .int .i64 (i : Int))]) (fun i => []) (fun i => i ≤ 100) (fun i => 100 - i) (0) (Nat.le_refl _) (.keep rfl (.keep rfl (.nil))) (.keep rfl (.nil)) (by omega) (rfl) ?_
      rintro i hi
      refine mwp_seq ?_
      refine mwp_seq ?_
      refine mwp_region rfl ?_   -- region 6
      refine wOps_op rfl (op_move rfl rfl ?_)   -- t19 ← move tmp 5
      refine wOps_op rfl (op_cmp rfl rfl rfl rfl ?_)   -- t20 ← binOp lss 3 tmp 19 const int i64 100 3
      refine wOps_nil ?_
      refine mwp_cond_split rfl (fun h20 => ?_) (fun h20 => ?_)   -- if t20
      · -- yes
        have hlt : i < 100 := by simp at h20; omega
        refine mwp_skip ?_
        refine mwp_seq ?_
        refine mwp_block ?_   -- block 1
        refine mwp_seq ?_
        refine mwp_region rfl ?_   -- region 8
        refine wOps_op rfl (op_call rfl rfl rfl co8 ((new_spec _).mono ?_))   -- t23 ← call ('rec', {'callee': ('app', 'value', [('app', 'func', [8])]),
        rintro _ _ ⟨rfl, rfl⟩
        refine wOps_st ([] ++ [tapeO [] 0]) rfl ?_
        refine wOps_op rfl (op_assign rfl rfl ?_)   -- t6 ← assign tmp 23
        refine wOps_nil ?_
        refine mwp_seq ?_
        refine mwp_seq ?_
        refine mwp_region rfl ?_   -- region 9
        refine wOps_op rfl (op_move rfl rfl ?_)   -- t24 ← move tmp 6
        refine wOps_op rfl (op_move rfl rfl ?_)   -- t25 ← move tmp 0
        refine wOps_op rfl (op_call rfl rfl rfl co15 ((add_spec 0 [] 0 _ rfl (by decide) a (by omega) (by show 0 + _ ≤ _; omega)).mono ?_))   -- t26 ← call ('rec', {'callee': ('app', 'value', [('app', 'func', [15])])
        rintro _ _ ⟨rfl, rfl⟩
        refine wOps_st ([] ++ [tapeO (laidB a) 0]) rfl ?_
        rw [← laids_one]
        refine wOps_op rfl (op_if0 rfl Try.underlying34 rfl rfl (.inr ⟨rfl, rfl⟩) ?_)   -- t27 ← binOp neq 34 tmp 26 const nilIface 34
        refine wOps_nil ?_
        refine mwp_cond_f rfl (rfl) ?_   -- if t27
        refine mwp_skip ?_
        refine mwp_seq ?_
        refine mwp_region rfl ?_   -- region 11
        refine wOps_op rfl (op_move rfl rfl ?_)   -- t28 ← move tmp 6
        refine wOps_op rfl (op_call rfl rfl rfl co10 ((sync_spec 0 (laids [a]) 0 _ rfl).mono ?_))   -- t29 ← call ('rec', {'callee': ('app', 'value', [('app', 'func', [10])])
        rintro _ _ ⟨rfl, rfl⟩
        refine wOps_st ([] ++ [tapeO (laids [a]) (laids [a]).length]) rfl ?_
        refine wOps_nil ?_
        refine mwp_seq ?_
        refine mwp_seq ?_
        refine mwp_region rfl ?_   -- region 12
        refine wOps_op rfl (op_move rfl rfl ?_)   -- t30 ← move tmp 6
        refine wOps_op rfl (op_move rfl rfl ?_)   -- t31 ← move tmp 1
        refine wOps_op rfl (op_call rfl rfl rfl co15 ((add_spec 0 (laids [a]) (laids [a]).length _ rfl (by omega) b (by omega) (by omega)).mono ?_))   -- t32 ← call ('rec', {'callee': ('app', 'value', [('app', 'func', [15])])
        rintro _ _ ⟨rfl, rfl⟩
        refine wOps_st ([] ++ [tapeO (laids [a] ++ laidB b) (laids [a]).length]) rfl ?_
        rw [← laids_one (r := b), ← laids_append]
        refine wOps_op rfl (op_if0 rfl Try.underlying34 rfl rfl (.inr ⟨rfl, rfl⟩) ?_)   -- t33 ← binOp neq 34 tmp 32 const nilIface 34
        refine wOps_nil ?_
        refine mwp_cond_f rfl (rfl) ?_   -- if t33
        refine mwp_skip ?_
        refine mwp_seq ?_
        refine mwp_region rfl ?_   -- region 14
        refine wOps_op rfl (op_move rfl rfl ?_)   -- t34 ← move tmp 6
        refine wOps_op rfl (op_call rfl rfl rfl co14 ((loose_spec 0 (laids ([a] ++ [b])) (laids [a]).length _ rfl (by omega) (by omega)).mono ?_))   -- t35 ← call ('rec', {'callee': ('app', 'value', [('app', 'func', [14])])
        rintro _ _ ⟨rfl, rfl⟩
        rw [show (laids ([a] ++ [b])).length - (laids [a]).length = b.length + 9 by omega]
        refine wOps_op rfl (op_assign rfl rfl ?_)   -- t7 ← assign tmp 35
        refine wOps_nil ?_
        refine mwp_seq ?_
        obtain ⟨x, hx⟩ : ∃ x, x = (laids [a]).length + min i ((laids ([a] ++ [b])).length - (laids [a]).length) := ⟨_, rfl⟩
        obtain ⟨j, h1, h2, h3, h4, h5⟩ := crash_laids (rs := [a] ++ [b]) (fun r hr => by simp at hr; rcases hr with rfl | rfl <;> omega) x
        obtain ⟨l, hl⟩ : ∃ l, l = ([a] ++ [b]).take j := ⟨_, rfl⟩
        rw [← hl] at h2 h3 h4
        replace h1 : j ≤ 2 := h1
        have hlm : ∀ r ∈ l, r.length < 2097152 := fun r hr => by have := (by rw [hl] at hr; exact List.mem_of_mem_take hr : r ∈ [a] ++ [b]); simp at this; rcases this with rfl | rfl <;> omega
        have fl : (laids l).length ≤ (laids ([a] ++ [b])).length := by rw [← h2]; simp only [List.length_take]; omega
        refine mwp_region rfl ?_   -- region 15
        refine wOps_op rfl (op_move rfl rfl ?_)   -- t36 ← move tmp 6
        refine wOps_op rfl (op_move rfl rfl ?_)   -- t37 ← move tmp 5
        refine wOps_op rfl (op_call rfl rfl rfl co11 ((crash_spec 0 (laids ([a] ++ [b])) (laids [a]).length _ rfl (by omega) (by omega) (i : Int) (wrap_i64 (by omega)) ((laids ([a] ++ [b])).take x) (by rw [hx]; rfl)).mono ?_))   -- t38 ← call ('rec', {'callee': ('app', 'value', [('app', 'func', [11])])
        rintro _ _ ⟨rfl, rfl⟩
        refine wOps_st ([] ++ [tapeO (((laids ([a] ++ [b])).take x).take (endJ (recsF ((laids ([a] ++ [b])).take x)) (recsF ((laids ([a] ++ [b])).take x)).length)) (endJ (recsF ((laids ([a] ++ [b])).take x)) (recsF ((laids ([a] ++ [b])).take x)).length)]) rfl ?_
        rw [h2, h3]
        refine wOps_nil ?_
        refine mwp_seq ?_
        refine mwp_region rfl ?_   -- region 16
        refine wOps_op rfl (op_move rfl rfl ?_)   -- t39 ← move tmp 0
        refine wOps_op rfl (op_buildSlice rfl Try.underlying22 el9 rfl rfl (by decide) (by decide) rfl rfl ?_)   -- t40 ← buildSlice 22 1 [(0,tmp 39)]
        refine wOps_op rfl (op_assign rfl rfl ?_)   -- t8 ← assign tmp 40
        refine wOps_nil ?_
        refine mwp_seq ?_
        refine mwp_seq ?_
        refine mwp_region rfl ?_   -- region 17
        refine wOps_op rfl (op_move rfl rfl ?_)   -- t41 ← move tmp 5
        refine wOps_op rfl (op_move rfl rfl ?_)   -- t42 ← move tmp 7
        refine wOps_op rfl (op_cmp rfl rfl rfl rfl ?_)   -- t43 ← binOp geq 3 tmp 41 tmp 42 3
        refine wOps_nil ?_
        refine mwp_cond_split rfl (fun h43 => ?_) (fun h43 => ?_)   -- if t43
        · -- yes
          have hw : l = [a, b] := by
            simp at h43
            have : 2 ≤ j := h5 2 (by simp) (by show (laids ([a] ++ [b])).length ≤ x; omega)
            have : j = 2 := by omega
            subst this
            exact hl
          refine mwp_region rfl ?_   -- region 18
          refine wOps_op rfl (op_move rfl rfl ?_)   -- t44 ← move tmp 0
          refine wOps_op rfl (op_move rfl rfl ?_)   -- t45 ← move tmp 1
          refine wOps_op rfl (op_buildSlice rfl Try.underlying22 el9 rfl rfl (by decide) (by decide) rfl rfl ?_)   -- t46 ← buildSlice 22 2 [(0,tmp 44),(1,tmp 45)]
          refine wOps_op rfl (op_assign rfl rfl ?_)   -- t8 ← assign tmp 46
          refine wOps_nil ?_
          refine mwp_seq ?_
          refine mwp_region rfl ?_   -- region 19
          refine wOps_op rfl (op_move rfl rfl ?_)   -- t47 ← move tmp 7
          refine wOps_op rfl (op_move rfl rfl ?_)   -- t48 ← move tmp 1
          refine wOps_op rfl (op_len_bs rfl Try.underlying9 rfl ?_)   -- t49 ← call ('rec', {'callee': ('app', 'builtin', [('id', 'Go.Builtin.le
          refine wOps_op rfl (op_arith rfl rfl rfl (wadd (a := b.length) (b := 9) rfl (by omega)) ?_)   -- t50 ← binOp add 3 tmp 49 const int i64 9 3
          refine wOps_op rfl (op_cmp rfl rfl rfl (cmpNe rfl) ?_)   -- t51 ← binOp neq 3 tmp 47 tmp 50 3
          refine wOps_op rfl (op_move rfl rfl ?_)   -- t52 ← move tmp 51
          refine wOps_op rfl (op_move rfl rfl ?_)   -- t53 ← move tmp 6  GUARD
          refine wOps_op rfl (op_call rfl rfl rfl co12 ((recordsL_spec 0 (laids l) (laids l).length _ rfl (by omega)).mono ?_))   -- t54 ← call ('rec', {'callee': ('app', 'value', [('app', 'func', [12])])  GUARD
          rintro _ _ ⟨rfl, rfl⟩
          rw [recs_laids hlm, hw]
          refine wOps_op rfl (op_move rfl rfl ?_)   -- t55 ← move tmp 8  GUARD
          refine wOps_op rfl (op_call rfl rfl rfl co13 ((sameTexts_spec [a, b] [a, b] _).mono ?_))   -- t56 ← call ('rec', {'callee': ('app', 'value', [('app', 'func', [13])])  GUARD
          rintro _ _ ⟨rfl, rfl⟩
          rw [decide_eq_true rfl]
          refine wOps_op rfl (op_not rfl rfl ?_)   -- t57 ← unOp not 4 tmp 56  GUARD
          refine wOps_op rfl (op_pick rfl rfl rfl ?_)   -- t58 ← pick tmp 52 const bool true tmp 57
          refine wOps_nil ?_
          refine mwp_cond_f rfl (rfl) ?_   -- if t58
          refine mwp_skip ?_
          refine mwp_region rfl ?_   -- region 7
          refine wOps_op rfl (op_move rfl rfl ?_)   -- t21 ← move tmp 5
          refine wOps_op rfl (op_arith rfl rfl rfl rfl ?_)   -- t22 ← binOp add 3 tmp 21 const int i64 1 3
          refine wOps_op rfl (op_assign rfl rfl ?_)   -- t5 ← assign tmp 22
          refine wOps_nil ?_
          refine ⟨i + 1, _, by omega, by omega, rfl, .nil, (.old rfl rfl (.old rfl rfl (.nil))), (.new' rfl (int_succ hlt (by decide)) (.int _ _) (.nil))⟩
        · -- no
          have hw : l = [a] := by
            simp at h43
            have h6 : 1 ≤ j := h5 1 (by simp) (by show (laids [a]).length ≤ x; omega)
            have h7 := h4 (by omega)
            have h8 : j ≠ 2 := fun e => by
              subst e
              have : l = [a] ++ [b] := hl
              rw [this] at h7
              omega
            have : j = 1 := by omega
            subst this
            exact hl
          refine mwp_skip ?_
          refine mwp_seq ?_
          refine mwp_region rfl ?_   -- region 19
          refine wOps_op rfl (op_move rfl rfl ?_)   -- t47 ← move tmp 7
          refine wOps_op rfl (op_move rfl rfl ?_)   -- t48 ← move tmp 1
          refine wOps_op rfl (op_len_bs rfl Try.underlying9 rfl ?_)   -- t49 ← call ('rec', {'callee': ('app', 'builtin', [('id', 'Go.Builtin.le
          refine wOps_op rfl (op_arith rfl rfl rfl (wadd (a := b.length) (b := 9) rfl (by omega)) ?_)   -- t50 ← binOp add 3 tmp 49 const int i64 9 3
          refine wOps_op rfl (op_cmp rfl rfl rfl (cmpNe rfl) ?_)   -- t51 ← binOp neq 3 tmp 47 tmp 50 3
          refine wOps_op rfl (op_move rfl rfl ?_)   -- t52 ← move tmp 51
          refine wOps_op rfl (op_move rfl rfl ?_)   -- t53 ← move tmp 6  GUARD
          refine wOps_op rfl (op_call rfl rfl rfl co12 ((recordsL_spec 0 (laids l) (laids l).length _ rfl (by omega)).mono ?_))   -- t54 ← call ('rec', {'callee': ('app', 'value', [('app', 'func', [12])])  GUARD
          rintro _ _ ⟨rfl, rfl⟩
          rw [recs_laids hlm, hw]
          refine wOps_op rfl (op_move rfl rfl ?_)   -- t55 ← move tmp 8  GUARD
          refine wOps_op rfl (op_call rfl rfl rfl co13 ((sameTexts_spec [a] [a] _).mono ?_))   -- t56 ← call ('rec', {'callee': ('app', 'value', [('app', 'func', [13])])  GUARD
          rintro _ _ ⟨rfl, rfl⟩
          rw [decide_eq_true rfl]
          refine wOps_op rfl (op_not rfl rfl ?_)   -- t57 ← unOp not 4 tmp 56  GUARD
          refine wOps_op rfl (op_pick rfl rfl rfl ?_)   -- t58 ← pick tmp 52 const bool true tmp 57
          refine wOps_nil ?_
          refine mwp_cond_f rfl (rfl) ?_   -- if t58
          refine mwp_skip ?_
          refine mwp_region rfl ?_   -- region 7
          refine wOps_op rfl (op_move rfl rfl ?_)   -- t21 ← move tmp 5
          refine wOps_op rfl (op_arith rfl rfl rfl rfl ?_)   -- t22 ← binOp add 3 tmp 21 const int i64 1 3
          refine wOps_op rfl (op_assign rfl rfl ?_)   -- t5 ← assign tmp 22
          refine wOps_nil ?_
          refine ⟨i + 1, _, by omega, by omega, rfl, .nil, (.old rfl rfl (.old rfl rfl (.nil))), (.new' rfl (int_succ hlt (by decide)) (.int _ _) (.nil))⟩
      · -- no
        refine mwp_exit ?_
        refine mwp_seq ?_
        refine mwp_region rfl ?_   -- region 21
        refine wOps_op rfl (op_assign rfl rfl ?_)   -- t4 ← assign const bool true
        refine wOps_nil ?_
        refine mwp_ret ?_
        exact ret_tmp (.inr rfl) Try.results4 rfl (.of_eq (rfl)) (.bool _) ⟨rfl, rfl⟩
end Go.Proofs.Ytddcpfbmoahnpaa
