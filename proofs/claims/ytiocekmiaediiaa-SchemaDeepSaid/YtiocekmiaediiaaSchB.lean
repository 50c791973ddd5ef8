/-
  Walks of package schema (layer 2), second part: how deep a schema is, whether two are the same, what causes have, levels.
-/
import Derived.Test.YtiocekmiaediiaaSchA
set_option linter.unusedVariables false
set_option linter.unusedSimpArgs false
namespace Go.Proofs.Ytiocekmiaediiaa
open Go Go.MV

mutual
def depth : Sch → Nat
  | .mk _ ins => 1 + depthL ins
def depthL : List Sch → Nat
  | [] => 0
  | s :: l => max (depth s) (depthL l)
end
theorem depthL_append : ∀ a b : List Sch, depthL (a ++ b) = max (depthL a) (depthL b)
  | [], b => by simp [depthL]
  | s :: a, b => by simp only [List.cons_append, depthL, depthL_append a b]; omega
theorem depthL_succ {l : List Sch} {i : Nat} {s : Sch} (h : l[i]? = some s) : depthL (l.take (i + 1)) = max (depthL (l.take i)) (depth s) := by
  rw [List.take_add_one, h, Option.toList_some, depthL_append]
  simp [depthL]
theorem depthL_le (l : List Sch) (i : Nat) : depthL (l.take i) ≤ depthL l := by
  have := depthL_append (l.take i) (l.drop i)
  rw [List.take_append_drop] at this
  omega
noncomputable instance : DecidableEq Sch := fun a b => Classical.propDecidable (a = b)


theorem deep_spec (most : Nat) : most < 1000 → ∀ (s : Sch) (S : MS), MCalls Try.prog 33 [encS s, .int .i64 (most : Int)] S fun v σ' => v = .int .i64 ((min most (depth s) : Nat) : Int) ∧ σ' = S := by
  induction most using Nat.strongRecOn with
  | _ most ih =>
  rintro hm ⟨k, ins⟩ S
  refine mcalls_body Try.func33 rfl Try.ntmps33 (Nat.le_of_ble_eq_true rfl) ?_
  refine mwp_seq ?_
  refine mwp_region rfl ?_   -- region 0
  refine wOps_op rfl (op_box' rfl rfl rfl rfl ?_)   -- t2 ← box 24 tmp 0
  refine wOps_op rfl (op_assign rfl rfl ?_)   -- t4 ← assign const int i64 0
  refine wOps_nil ?_
  refine mwp_seq ?_
  refine mwp_seq ?_
  refine mwp_region rfl ?_   -- region 1
  refine wOps_op rfl (op_move rfl rfl ?_)   -- t8 ← move tmp 1
  refine wOps_op rfl (op_cmp rfl rfl rfl rfl ?_)   -- t9 ← binOp leq 3 tmp 8 const int i64 1 3
  refine wOps_nil ?_
  refine mwp_cond_split rfl (fun h9 => ?_) (fun h9 => ?_)   -- if t9
  · -- yes
    refine mwp_seq ?_
    refine mwp_region rfl ?_   -- region 2
    refine wOps_op rfl (op_move rfl rfl ?_)   -- t10 ← move tmp 1
    refine wOps_op rfl (op_assign rfl rfl ?_)   -- t4 ← assign tmp 10
    refine wOps_nil ?_
    refine mwp_ret ?_
    exact ret_tmp (.inr rfl) Try.results33 rfl (.refl _) (.int _ _) ⟨by simp at h9; congr 1; simp only [depth]; omega, rfl⟩
  · -- no
    have hm2 : 1 < most := by simp at h9; omega
    have hsub : IntKind.i64.wrap ((most : Int) - 1) = ((most - 1 : Nat) : Int) := by rw [wrap_i64 (by omega)]; omega
    refine mwp_skip ?_
    refine mwp_seq ?_
    refine mwp_region rfl ?_   -- region 3
    refine wOps_op rfl (op_assign rfl rfl ?_)   -- t5 ← assign const int i64 1
    refine wOps_nil ?_
    refine mwp_seq ?_
    refine mwp_seq ?_
    refine mwp_region rfl ?_   -- region 4
    refine wOps_op rfl (op_fieldAddr_ref rfl rfl fo24_1 ?_)   -- t11 ← fieldAddr 24 tmp 2 1
    refine wOps_op rfl (op_load' rfl rfl rfl ta22 rfl ?_)   -- t12 ← load 22 tmp 11
    refine wOps_op rfl (op_len_lst rfl Try.underlying22 rfl ?_)   -- t13 ← call ('rec', {'callee': ('app', 'builtin', [('id', 'Go.Builtin.le
    refine wOps_op rfl (op_move rfl rfl ?_)   -- t14 ← move const int i64 0
    refine wOps_nil ?_
    refine mwp_block ?_   -- block 0
    refine mwp_loopJ (α := Nat) (fun i => [(1, .int .i64 (most : Int)), (5, .int .i64 ((min most (1 + depthL (ins.take i)) : Nat) : Int)), (12, .lst none 2 (encSs ins)), (13, .int .i64 ((encSs ins).length : Int)), (14, .int .i64 (i : Int))]) (fun i => [.cells [.int .i64 k, .lst none 2 (encSs ins)]]) (fun i => i ≤ ins.length) (fun i => ins.length - i) (0) (Nat.le_refl _) (by omega) rfl (.keep rfl (.eq rfl (by rw [List.take_zero]; simp [depthL]; omega) (.keep rfl (.keep rfl (.keep rfl .nil))))) ?_
    intro i hi
    refine mwp_len (t := 12) rfl fun hlen => ?_
    refine mwp_seq ?_
    refine mwp_region rfl ?_   -- region 5
    refine wOps_op rfl (op_cmp rfl rfl rfl rfl ?_)   -- t15 ← binOp lss 3 tmp 14 tmp 13 3
    refine wOps_nil ?_
    refine mwp_seq ?_
    refine mwp_cond_split rfl (fun h15 => ?_) (fun h15 => ?_)   -- if t15
    · -- yes
      have hlt : i < ins.length := by rw [encSs_length] at h15; simpa using h15
      obtain ⟨⟨k2, ins2⟩, hs⟩ : ∃ s, ins[i]? = some s := ⟨_, List.getElem?_eq_getElem hlt⟩
      have hadd : IntKind.i64.wrap (1 + ((min (most - 1) (depth (.mk k2 ins2)) : Nat) : Int)) = ((1 + min (most - 1) (depth (.mk k2 ins2)) : Nat) : Int) := by rw [wrap_i64 (by omega)]; omega
      have hdl := depthL_succ hs
      refine mwp_skip ?_
      refine mwp_seq ?_
      refine mwp_block ?_   -- block 1
      refine mwp_seq ?_
      refine mwp_region rfl ?_   -- region 6
      refine wOps_op rfl (op_indexAddr rfl Try.underlying22 sz24 (by decide) rfl rfl rfl (encSs_get hs) ?_)   -- t16 ← indexAddr 22 tmp 12 tmp 14
      refine wOps_op rfl (op_load_sptr rfl rfl ta24 rfl ?_)   -- t17 ← load 24 tmp 16
      refine wOps_op rfl (op_alloc' rfl zm24 rfl rfl ?_)   -- t7 ← alloc 24
      refine wOps_op rfl (op_store' rfl rfl rfl rfl sz24 rfl rfl (Nat.le_of_ble_eq_true rfl) rfl ?_)   -- store 24 tmp 7 tmp 17
      refine wOps_nil ?_
      refine mwp_seq ?_
      refine mwp_region rfl ?_   -- region 7
      refine wOps_op rfl (op_move rfl rfl ?_)   -- t18 ← move tmp 5
      refine wOps_op rfl (op_load' rfl rfl rfl ta24 rfl ?_)   -- t19 ← load 24 tmp 7
      refine wOps_op rfl (op_move rfl rfl ?_)   -- t20 ← move tmp 1
      refine wOps_op rfl (op_arith rfl rfl rfl rfl ?_)   -- t21 ← binOp sub 3 tmp 20 const int i64 1 3
      rw [hsub]
      refine wOps_op rfl (op_call rfl rfl rfl co33 ((ih (most - 1) (by omega) (by omega) (.mk k2 ins2) _).mono ?_))   -- t22 ← call ('rec', {'callee': ('app', 'value', [('app', 'func', [33])])
      rintro _ _ ⟨rfl, rfl⟩
      refine wOps_op rfl (op_arith rfl rfl rfl rfl ?_)   -- t23 ← binOp add 3 const int i64 1 tmp 22 3
      rw [hadd]
      refine wOps_op rfl (op_max2 rfl rfl rfl ?_)   -- t24 ← call ('rec', {'callee': ('app', 'builtin', [('id', 'Go.Builtin.ma
      refine wOps_op rfl (op_assign rfl rfl ?_)   -- t5 ← assign tmp 24
      refine wOps_nil ?_
      refine mwp_seq ?_
      refine mwp_region rfl ?_   -- region 8
      refine wOps_op rfl (op_move rfl rfl ?_)   -- t25 ← move tmp 5
      refine wOps_op rfl (op_move rfl rfl ?_)   -- t26 ← move tmp 1
      refine wOps_op rfl (op_cmp rfl rfl rfl rfl ?_)   -- t27 ← binOp geq 3 tmp 25 tmp 26 3
      refine wOps_nil ?_
      refine mwp_cond_split rfl (fun h27 => ?_) (fun h27 => ?_)   -- if t27
      · -- yes
        refine mwp_exit ?_
        refine mwp_seq ?_
        refine mwp_region rfl ?_   -- region 10
        refine wOps_op rfl (op_move rfl rfl ?_)   -- t29 ← move tmp 5
        refine wOps_op rfl (op_assign rfl rfl ?_)   -- t4 ← assign tmp 29
        refine wOps_nil ?_
        refine mwp_ret ?_
        simp only [decide_eq_true_eq] at h27
        exact ret_tmp (.inr rfl) Try.results33 rfl (.refl _) (.int _ _) ⟨by have := depthL_le ins (i + 1); rw [hdl] at this; congr 1; show _ = ((min most (1 + depthL ins) : Nat) : Int); split at h27 <;> split <;> omega, rfl⟩
      · -- no
        refine mwp_skip ?_
        refine mwp_region rfl ?_   -- region 9
        refine wOps_op rfl (op_arith rfl rfl rfl rfl ?_)   -- t28 ← binOp add 3 tmp 14 const int i64 1 3
        refine wOps_op rfl (op_move rfl rfl ?_)   -- t14 ← move tmp 28
        refine wOps_nil ?_
        refine ⟨i + 1, _, by omega, by omega, rfl, .same .nil, .old rfl rfl (.new' rfl ?_ (.int _ _) (.old rfl rfl (.old rfl rfl (.new' rfl (int_succ hlt (by rw [encSs_length] at hlen; exact hlen)) (.int _ _) .nil))))⟩
        congr 1
        rw [hdl]
        split <;> omega
    · -- no
      have hge : i = ins.length := by rw [encSs_length] at h15; simp at h15; omega
      refine mwp_exit ?_
      refine mwp_seq ?_
      refine mwp_region rfl ?_   -- region 10
      refine wOps_op rfl (op_move rfl rfl ?_)   -- t29 ← move tmp 5
      refine wOps_op rfl (op_assign rfl rfl ?_)   -- t4 ← assign tmp 29
      refine wOps_nil ?_
      refine mwp_ret ?_
      exact ret_tmp (.inr rfl) Try.results33 rfl (.refl _) (.int _ _) ⟨by rw [hge, List.take_length]; congr 1, rfl⟩

theorem Deep_spec (s : Sch) (S : MS) : MCalls Try.prog 10 [encS s] S fun v σ' => v = .int .i64 ((min 17 (depth s) : Nat) : Int) ∧ σ' = S := by
  obtain ⟨k, ins⟩ := s
  refine mcalls_body Try.func10 rfl Try.ntmps10 (Nat.le_of_ble_eq_true rfl) ?_
  refine mwp_seq ?_
  refine mwp_region rfl ?_   -- region 0
  refine wOps_op rfl (op_box' rfl rfl rfl rfl ?_)   -- t1 ← box 24 tmp 0
  refine wOps_op rfl (op_assign rfl rfl ?_)   -- t2 ← assign const int i64 0
  refine wOps_nil ?_
  refine mwp_seq ?_
  refine mwp_region rfl ?_   -- region 1
  refine wOps_op rfl (op_load' rfl rfl rfl ta24 rfl ?_)   -- t3 ← load 24 tmp 1
  refine wOps_op rfl (op_call rfl rfl rfl co33 ((deep_spec 17 (by omega) (.mk k ins) _).mono ?_))   -- t4 ← call ('rec', {'callee': ('app', 'value', [('app', 'func', [33])])
  rintro _ _ ⟨rfl, rfl⟩
  refine wOps_op rfl (op_assign rfl rfl ?_)   -- t2 ← assign tmp 4
  refine wOps_nil ?_
  refine mwp_ret ?_
  exact ret_tmp (.inr rfl) Try.results10 rfl (.refl _) (.int _ _) ⟨rfl, rfl⟩

theorem both_spec (a b : List Sch) (kf : FuncId) (first caps : List MV) (S : MS) (hco : CallOk Try.prog kf) (hp : ∀ x y : Sch, x ∈ a → y ∈ b → ∀ X : MS, MCalls Try.prog kf (first ++ [encS x, encS y] ++ caps) (S ++ X) fun v σ' => v = .bool (decide (x = y)) ∧ σ' = S ++ X) :
    MCalls Try.prog 35 [.lst none 2 (encSs a), .lst none 2 (encSs b), .fn (.func kf) first caps] S fun v σ' => v = .bool (decide (a = b)) ∧ σ' = S := by
  refine mcalls_body Try.func35 rfl Try.ntmps35 (Nat.le_of_ble_eq_true rfl) ?_
  refine mwp_len (t := 0) rfl fun hlen => ?_
  refine mwp_seq ?_
  refine mwp_region rfl ?_   -- region 0
  refine wOps_op rfl (op_assign rfl rfl ?_)   -- t6 ← assign const bool false
  refine wOps_nil ?_
  refine mwp_seq ?_
  refine mwp_seq ?_
  refine mwp_region rfl ?_   -- region 1
  refine wOps_op rfl (op_move rfl rfl ?_)   -- t8 ← move tmp 0
  refine wOps_op rfl (op_len_lst rfl Try.underlying22 rfl ?_)   -- t9 ← call ('rec', {'callee': ('app', 'builtin', [('id', 'Go.Builtin.le
  refine wOps_op rfl (op_move rfl rfl ?_)   -- t10 ← move tmp 1
  refine wOps_op rfl (op_len_lst rfl Try.underlying22 rfl ?_)   -- t11 ← call ('rec', {'callee': ('app', 'builtin', [('id', 'Go.Builtin.le
  refine wOps_op rfl (op_cmp rfl rfl rfl rfl ?_)   -- t12 ← binOp neq 3 tmp 9 tmp 11 3
  refine wOps_nil ?_
  refine mwp_cond_split rfl (fun h12 => ?_) (fun h12 => ?_)   -- if t12
  · -- yes
    refine mwp_seq ?_
    refine mwp_region rfl ?_   -- region 2
    refine wOps_op rfl (op_assign rfl rfl ?_)   -- t6 ← assign const bool false
    refine wOps_nil ?_
    refine mwp_ret ?_
    exact ret_tmp (.inr rfl) Try.results35 rfl (.refl _) (.bool _) ⟨by rw [encSs_length, encSs_length] at h12; simp at h12; congr 1; symm; rw [decide_eq_false_iff_not]; exact fun e => h12 (by rw [e]), rfl⟩
  · -- no
    have hab : a.length = b.length := by rw [encSs_length, encSs_length] at h12; simp at h12; omega
    refine mwp_skip ?_
    refine mwp_seq ?_
    refine mwp_seq ?_
    refine mwp_region rfl ?_   -- region 3
    refine wOps_op rfl (op_move rfl rfl ?_)   -- t13 ← move tmp 0
    refine wOps_op rfl (op_len_lst rfl Try.underlying22 rfl ?_)   -- t14 ← call ('rec', {'callee': ('app', 'builtin', [('id', 'Go.Builtin.le
    refine wOps_op rfl (op_move rfl rfl ?_)   -- t15 ← move const int i64 0
    refine wOps_nil ?_
    refine mwp_block ?_   -- block 0
    refine mwp_loop0 (α := Nat) (fun i => [(0, .lst none 2 (encSs a)), (1, .lst none 2 (encSs b)), (2, .fn (.func kf) first caps), (14, .int .i64 ((encSs a).length : Int)), (15, .int .i64 (i : Int))]) (fun i => []) (fun i => i ≤ a.length ∧ a.take i = b.take i) (fun i => a.length - i) (0) ⟨by omega, rfl⟩ rfl (.keep rfl (.keep rfl (.keep rfl (.keep rfl (.keep rfl .nil))))) ?_
    rintro i ⟨hi, heq⟩
    refine mwp_seq ?_
    refine mwp_region rfl ?_   -- region 4
    refine wOps_op rfl (op_cmp rfl rfl rfl rfl ?_)   -- t16 ← binOp lss 3 tmp 15 tmp 14 3
    refine wOps_nil ?_
    refine mwp_seq ?_
    refine mwp_cond_split rfl (fun h16 => ?_) (fun h16 => ?_)   -- if t16
    · -- yes
      have hlt : i < a.length := by rw [encSs_length] at h16; simpa using h16
      obtain ⟨⟨k, ins⟩, hs⟩ : ∃ s, a[i]? = some s := ⟨_, List.getElem?_eq_getElem hlt⟩
      obtain ⟨⟨k2, ins2⟩, hs2⟩ : ∃ s, b[i]? = some s := ⟨_, List.getElem?_eq_getElem (by omega)⟩
      refine mwp_skip ?_
      refine mwp_seq ?_
      refine mwp_block ?_   -- block 1
      refine mwp_seq ?_
      refine mwp_region rfl ?_   -- region 5
      refine wOps_op rfl (op_move rfl rfl ?_)   -- t17 ← move tmp 15
      refine wOps_op rfl (op_assign rfl rfl ?_)   -- t7 ← assign tmp 17
      refine wOps_nil ?_
      refine mwp_seq ?_
      refine mwp_draw [] [_] mo (by decide) rfl rfl rfl rfl ?_   -- region 6
      refine dOps_op rfl rfl (.cons (op_move rfl rfl ⟨rfl, rfl⟩) .nil) ?_   -- t18 ← move tmp 2
      refine dOps_op rfl rfl (.cons (op_move rfl rfl ⟨rfl, rfl⟩) .nil) ?_   -- t19 ← move tmp 0
      refine dOps_op rfl rfl (.cons (op_move rfl rfl ⟨rfl, rfl⟩) .nil) ?_   -- t20 ← move tmp 7
      refine dOps_op rfl rfl (.cons (op_indexAddr rfl Try.underlying22 sz24 (by decide) rfl rfl rfl (encSs_get hs) ⟨rfl, rfl⟩) .nil) ?_   -- t21 ← indexAddr 22 tmp 19 tmp 20
      refine dOps_op rfl rfl (.cons (op_load_sptr rfl rfl ta24 rfl ⟨rfl, rfl⟩) .nil) ?_   -- t22 ← load 24 tmp 21
      refine dOps_op rfl rfl (.cons (op_move rfl rfl ⟨rfl, rfl⟩) .nil) ?_   -- t23 ← move tmp 1
      refine dOps_op rfl rfl (.cons (op_move rfl rfl ⟨rfl, rfl⟩) .nil) ?_   -- t24 ← move tmp 7
      refine dOps_op rfl rfl (.cons (op_indexAddr rfl Try.underlying22 sz24 (by decide) rfl rfl rfl (encSs_get hs2) ⟨rfl, rfl⟩) .nil) ?_   -- t25 ← indexAddr 22 tmp 23 tmp 24
      refine dOps_op rfl rfl (.cons (op_load_sptr rfl rfl ta24 rfl ⟨rfl, rfl⟩) .nil) ?_   -- t26 ← load 24 tmp 25
      refine dOps_op rfl rfl (.cons (op_call rfl rfl rfl hco (hp _ _ (List.mem_of_getElem? hs) (List.mem_of_getElem? hs2) _)) .nil) ?_   -- t27 ← call ('rec', {'callee': ('app', 'value', [('app', 'tmp', [18])]),
      refine dOps_op rfl rfl (.cons (op_not rfl rfl ⟨rfl, rfl⟩) .nil) ?_   -- t28 ← unOp not 4 tmp 27
      refine dOps_nil ?_
      refine mwp_cond_split rfl (fun h28 => ?_) (fun h28 => ?_)   -- if t28
      · -- yes
        refine mwp_seq ?_
        refine mwp_region rfl ?_   -- region 7
        refine wOps_op rfl (op_assign rfl rfl ?_)   -- t6 ← assign const bool false
        refine wOps_nil ?_
        refine mwp_ret ?_
        exact ret_tmp (.inr rfl) Try.results35 rfl (.refl _) (.bool _) ⟨by congr 1; symm; rw [decide_eq_false_iff_not]; intro e; rw [e, hs2] at hs; injection hs with hs; simp [hs] at h28, rfl⟩
      · -- no
        refine mwp_skip ?_
        refine mwp_region rfl ?_   -- region 8
        refine wOps_op rfl (op_arith rfl rfl rfl rfl ?_)   -- t29 ← binOp add 3 tmp 15 const int i64 1 3
        refine wOps_op rfl (op_move rfl rfl ?_)   -- t15 ← move tmp 29
        refine wOps_nil ?_
        refine ⟨i + 1, by omega, ⟨by omega, ?_⟩, rfl, .keep rfl (.keep rfl (.keep rfl (.keep rfl (.eq rfl (int_succ hlt (by rw [encSs_length] at hlen; exact hlen)) .nil))))⟩
        rw [List.take_add_one, List.take_add_one, hs, hs2, heq]
        simp at h28
        rw [h28.1, h28.2]
    · -- no
      have hge : i = a.length := by rw [encSs_length] at h16; simp at h16; omega
      refine mwp_exit ?_
      refine mwp_seq ?_
      refine mwp_region rfl ?_   -- region 9
      refine wOps_op rfl (op_assign rfl rfl ?_)   -- t6 ← assign const bool true
      refine wOps_nil ?_
      refine mwp_ret ?_
      exact ret_tmp (.inr rfl) Try.results35 rfl (.refl _) (.bool _) ⟨by congr 1; symm; rw [decide_eq_true_iff]; rw [hge, List.take_length, hab, List.take_length] at heq; exact heq, rfl⟩

theorem Same_spec (n : Nat) : ∀ (a b : Sch), depth a ≤ n → ∀ S : MS, MCalls Try.prog 12 [encS a, encS b] S fun v σ' => v = .bool (decide (a = b)) ∧ σ' = S := by
  induction n with
  | zero => rintro ⟨k, ins⟩ b h; simp [depth] at h
  | succ n ih =>
  rintro ⟨k, ins⟩ ⟨k2, ins2⟩ hd S
  have hmem : ∀ x ∈ ins, depth x ≤ n := by
    intro x hx
    obtain ⟨i, hi⟩ := List.getElem?_of_mem hx
    have h1 := depthL_succ hi
    have h2 := depthL_le ins (i + 1)
    simp only [depth] at hd
    omega
  by_cases hk : k = k2
  · have hkb : (k == k2) = true := by simpa using hk
    refine mcalls_body Try.func12 rfl Try.ntmps12 (Nat.le_of_ble_eq_true rfl) ?_
    refine mwp_seq ?_
    refine mwp_region rfl ?_   -- region 0
    refine wOps_op rfl (op_box' rfl rfl rfl rfl ?_)   -- t2 ← box 24 tmp 0
    refine wOps_op rfl (op_box' rfl rfl rfl rfl ?_)   -- t3 ← box 24 tmp 1
    refine wOps_op rfl (op_assign rfl rfl ?_)   -- t4 ← assign const bool false
    refine wOps_nil ?_
    refine mwp_seq ?_
    refine mwp_region rfl ?_   -- region 1
    refine wOps_op rfl (op_fieldAddr_ref rfl rfl fo24_0 ?_)   -- t5 ← fieldAddr 24 tmp 2 0
    refine wOps_op rfl (op_load' rfl rfl rfl ta3 rfl ?_)   -- t6 ← load 3 tmp 5
    refine wOps_op rfl (op_fieldAddr_ref rfl rfl fo24_0 ?_)   -- t7 ← fieldAddr 24 tmp 3 0
    refine wOps_op rfl (op_load' rfl rfl rfl ta3 rfl ?_)   -- t8 ← load 3 tmp 7
    refine wOps_op rfl (op_cmp rfl rfl rfl rfl ?_)   -- t9 ← binOp eql 3 tmp 6 tmp 8 3
    rw [hkb]
    refine wOps_op rfl (op_move rfl rfl ?_)   -- t10 ← move tmp 9
    refine wOps_op rfl (op_fieldAddr_ref rfl rfl fo24_1 ?_)   -- t11 ← fieldAddr 24 tmp 2 1  GUARD
    refine wOps_op rfl (op_load' rfl rfl rfl ta22 rfl ?_)   -- t12 ← load 22 tmp 11  GUARD
    refine wOps_op rfl (op_fieldAddr_ref rfl rfl fo24_1 ?_)   -- t13 ← fieldAddr 24 tmp 3 1  GUARD
    refine wOps_op rfl (op_load' rfl rfl rfl ta22 rfl ?_)   -- t14 ← load 22 tmp 13  GUARD
    refine wOps_op rfl (op_call rfl rfl rfl co35 ((both_spec ins ins2 _ [] [] _ co12 fun x y hx _ X => ih x y (hmem x hx) _).mono ?_))   -- t15 ← call ('rec', {'callee': ('app', 'value', [('app', 'func', [35])])  GUARD
    rintro _ _ ⟨rfl, rfl⟩
    refine wOps_op rfl (op_pick rfl rfl rfl ?_)   -- t16 ← pick tmp 10 tmp 15 const bool false
    refine wOps_op rfl (op_assign rfl rfl ?_)   -- t4 ← assign tmp 16
    refine wOps_nil ?_
    refine mwp_ret ?_
    exact ret_tmp (.inr rfl) Try.results12 rfl (.refl _) (.bool _) ⟨by subst hk; simp, rfl⟩
  · have hkb : (k == k2) = false := by simpa using hk
    refine mcalls_body Try.func12 rfl Try.ntmps12 (Nat.le_of_ble_eq_true rfl) ?_
    refine mwp_seq ?_
    refine mwp_region rfl ?_   -- region 0
    refine wOps_op rfl (op_box' rfl rfl rfl rfl ?_)   -- t2 ← box 24 tmp 0
    refine wOps_op rfl (op_box' rfl rfl rfl rfl ?_)   -- t3 ← box 24 tmp 1
    refine wOps_op rfl (op_assign rfl rfl ?_)   -- t4 ← assign const bool false
    refine wOps_nil ?_
    refine mwp_seq ?_
    refine mwp_region rfl ?_   -- region 1
    refine wOps_op rfl (op_fieldAddr_ref rfl rfl fo24_0 ?_)   -- t5 ← fieldAddr 24 tmp 2 0
    refine wOps_op rfl (op_load' rfl rfl rfl ta3 rfl ?_)   -- t6 ← load 3 tmp 5
    refine wOps_op rfl (op_fieldAddr_ref rfl rfl fo24_0 ?_)   -- t7 ← fieldAddr 24 tmp 3 0
    refine wOps_op rfl (op_load' rfl rfl rfl ta3 rfl ?_)   -- t8 ← load 3 tmp 7
    refine wOps_op rfl (op_cmp rfl rfl rfl rfl ?_)   -- t9 ← binOp eql 3 tmp 6 tmp 8 3
    rw [hkb]
    refine wOps_op rfl (op_move rfl rfl ?_)   -- t10 ← move tmp 9
    refine wOps_skip rfl ?_
    refine wOps_skip rfl ?_
    refine wOps_skip rfl ?_
    refine wOps_skip rfl ?_
    refine wOps_skip rfl ?_
    refine wOps_op rfl (op_pick rfl rfl rfl ?_)   -- t16 ← pick tmp 10 tmp 15 const bool false
    refine wOps_op rfl (op_assign rfl rfl ?_)   -- t4 ← assign tmp 16
    refine wOps_nil ?_
    refine mwp_ret ?_
    exact ret_tmp (.inr rfl) Try.results12 rfl (.refl _) (.bool _) ⟨by simp [hk], rfl⟩

def causeS (s : Sch) : Sch := .mk 8 [.mk 5 [.mk 4 [.mk 7 []], s]]
theorem Cause_spec (s : Sch) (S : MS) : MCalls Try.prog 16 [encS s] S fun v σ' => v = encS (causeS s) ∧ σ' = S := by
  obtain ⟨k, ins⟩ := s
  refine mcalls_body Try.func16 rfl Try.ntmps16 (Nat.le_of_ble_eq_true rfl) ?_
  refine mwp_seq ?_
  refine mwp_region rfl ?_   -- region 0
  refine wOps_op rfl (op_box' rfl rfl rfl rfl ?_)   -- t1 ← box 24 tmp 0
  refine wOps_op rfl (op_alloc' rfl zm24 rfl rfl ?_)   -- t2 ← alloc 24
  refine wOps_nil ?_
  refine mwp_seq ?_
  refine mwp_region rfl ?_   -- region 1
  refine wOps_op rfl (op_build rfl Try.underlying24 zm24 (.cons fo24_0 sz3 rfl rfl (by decide) .nil) (by kernel_rfl) ?_)   -- t4 ← build 24 [(0,const int i64 7)]
  refine wOps_op rfl (op_buildSlice rfl Try.underlying22 el24 rfl rfl (by decide) (by decide) rfl rfl ?_)   -- t5 ← buildSlice 22 1 [(0,tmp 4)]
  refine wOps_op rfl (op_build rfl Try.underlying24 zm24 (.cons fo24_0 sz3 rfl rfl (by decide) (.cons fo24_1 sz22 rfl rfl (by decide) .nil)) (by kernel_rfl) ?_)   -- t6 ← build 24 [(0,const int i64 4),(1,tmp 5)]
  refine wOps_op rfl (op_alloc' rfl zm24 rfl rfl ?_)   -- t3 ← alloc 24
  refine wOps_op rfl (op_store' rfl rfl rfl rfl sz24 rfl rfl (Nat.le_of_ble_eq_true rfl) rfl ?_)   -- store 24 tmp 3 tmp 6
  refine wOps_nil ?_
  refine mwp_seq ?_
  refine mwp_region rfl ?_   -- region 2
  refine wOps_op rfl (op_load' rfl rfl rfl ta24 rfl ?_)   -- t7 ← load 24 tmp 3
  refine wOps_op rfl (op_load' rfl rfl rfl ta24 rfl ?_)   -- t8 ← load 24 tmp 1
  refine wOps_op rfl (op_buildSlice rfl Try.underlying22 el24 rfl rfl (by decide) (by decide) rfl rfl ?_)   -- t9 ← buildSlice 22 2 [(0,tmp 7),(1,tmp 8)]
  refine wOps_op rfl (op_build rfl Try.underlying24 zm24 (.cons fo24_0 sz3 rfl rfl (by decide) (.cons fo24_1 sz22 rfl rfl (by decide) .nil)) (by kernel_rfl) ?_)   -- t10 ← build 24 [(0,const int i64 5),(1,tmp 9)]
  refine wOps_op rfl (op_buildSlice rfl Try.underlying22 el24 rfl rfl (by decide) (by decide) rfl rfl ?_)   -- t11 ← buildSlice 22 1 [(0,tmp 10)]
  refine wOps_op rfl (op_build rfl Try.underlying24 zm24 (.cons fo24_0 sz3 rfl rfl (by decide) (.cons fo24_1 sz22 rfl rfl (by decide) .nil)) (by kernel_rfl) ?_)   -- t12 ← build 24 [(0,const int i64 8),(1,tmp 11)]
  refine wOps_op rfl (op_store' rfl rfl rfl rfl sz24 rfl rfl (Nat.le_of_ble_eq_true rfl) rfl ?_)   -- store 24 tmp 2 tmp 12
  refine wOps_nil ?_
  refine mwp_ret ?_
  exact ret_cell (.inr rfl) Try.results16 rfl rfl ta24 rfl (.agg (.cons (.refl _) (.cons (.lstE (.agg (.cons (.refl _) (.cons (.lstE (.agg (.cons (.refl _) (.cons (.lstE (.agg (.cons (.refl _) (.cons (.nil 2) .nil)) .nil) rfl) .nil)) (.same .nil)) rfl) .nil)) .nil) rfl) .nil))) (cl_encS _ (causeS (.mk k ins))) ⟨rfl, rfl⟩
end Go.Proofs.Ytiocekmiaediiaa
