/-
  Walks of the reference's schemas, and of both levels (layer 2).
-/
import Derived.Test.YtiocekmiaediiaaSchB
set_option linter.unusedVariables false
set_option linter.unusedSimpArgs false
namespace Go.Proofs.Ytiocekmiaediiaa
open Go Go.MV


theorem arity_spec (k : Int) (S : MS) : MCalls Try.prog 45 [.int .i64 k] S fun v σ' => v = .int .i64 (partsF k) ∧ σ' = S := by
  refine mcalls_body Try.func45 rfl Try.ntmps45 (Nat.le_of_ble_eq_true rfl) ?_
  refine mwp_seq ?_
  refine mwp_region rfl ?_   -- region 0
  refine wOps_op rfl (op_assign rfl rfl ?_)   -- t2 ← assign const int i64 0
  refine wOps_nil ?_
  refine mwp_seq ?_
  refine mwp_seq ?_
  refine mwp_region rfl ?_   -- region 1
  refine wOps_op rfl (op_move rfl rfl ?_)   -- t3 ← move tmp 0
  refine wOps_nil ?_
  refine mwp_block ?_   -- block 0
  refine mwp_seq ?_
  refine mwp_seq ?_
  refine mwp_region rfl ?_   -- region 2
  refine wOps_op rfl (op_cmp rfl rfl rfl rfl ?_)   -- t5 ← binOp eql 3 tmp 3 const int i64 1 3
  refine wOps_op rfl (op_assign rfl rfl ?_)   -- t4 ← assign tmp 5
  refine wOps_nil ?_
  refine mwp_cond_split rfl (fun h4 => ?_) (fun h4 => ?_)   -- if t4
  · -- yes
    refine mwp_skip ?_
    refine mwp_cond_t rfl h4 ?_   -- if t4
    refine mwp_seq ?_
    refine mwp_region rfl ?_   -- region 7
    refine wOps_op rfl (op_assign rfl rfl ?_)   -- t2 ← assign const int i64 0
    refine wOps_nil ?_
    refine mwp_ret ?_
    exact ret_tmp (.inr rfl) Try.results45 rfl (.refl _) (.int _ _) ⟨by simp_all [partsF], rfl⟩
  · -- no
    refine mwp_seq ?_
    refine mwp_region rfl ?_   -- region 3
    refine wOps_op rfl (op_cmp rfl rfl rfl rfl ?_)   -- t6 ← binOp eql 3 tmp 3 const int i64 2 3
    refine wOps_op rfl (op_assign rfl rfl ?_)   -- t4 ← assign tmp 6
    refine wOps_nil ?_
    refine mwp_cond_split rfl (fun h4 => ?_) (fun h4 => ?_)   -- if t4
    · -- yes
      refine mwp_skip ?_
      refine mwp_cond_t rfl h4 ?_   -- if t4
      refine mwp_seq ?_
      refine mwp_region rfl ?_   -- region 7
      refine wOps_op rfl (op_assign rfl rfl ?_)   -- t2 ← assign const int i64 0
      refine wOps_nil ?_
      refine mwp_ret ?_
      exact ret_tmp (.inr rfl) Try.results45 rfl (.refl _) (.int _ _) ⟨by simp_all [partsF], rfl⟩
    · -- no
      refine mwp_seq ?_
      refine mwp_region rfl ?_   -- region 4
      refine wOps_op rfl (op_cmp rfl rfl rfl rfl ?_)   -- t7 ← binOp eql 3 tmp 3 const int i64 3 3
      refine wOps_op rfl (op_assign rfl rfl ?_)   -- t4 ← assign tmp 7
      refine wOps_nil ?_
      refine mwp_cond_split rfl (fun h4 => ?_) (fun h4 => ?_)   -- if t4
      · -- yes
        refine mwp_skip ?_
        refine mwp_cond_t rfl h4 ?_   -- if t4
        refine mwp_seq ?_
        refine mwp_region rfl ?_   -- region 7
        refine wOps_op rfl (op_assign rfl rfl ?_)   -- t2 ← assign const int i64 0
        refine wOps_nil ?_
        refine mwp_ret ?_
        exact ret_tmp (.inr rfl) Try.results45 rfl (.refl _) (.int _ _) ⟨by simp_all [partsF], rfl⟩
      · -- no
        refine mwp_seq ?_
        refine mwp_region rfl ?_   -- region 5
        refine wOps_op rfl (op_cmp rfl rfl rfl rfl ?_)   -- t8 ← binOp eql 3 tmp 3 const int i64 6 3
        refine wOps_op rfl (op_assign rfl rfl ?_)   -- t4 ← assign tmp 8
        refine wOps_nil ?_
        refine mwp_cond_split rfl (fun h4 => ?_) (fun h4 => ?_)   -- if t4
        · -- yes
          refine mwp_skip ?_
          refine mwp_cond_t rfl h4 ?_   -- if t4
          refine mwp_seq ?_
          refine mwp_region rfl ?_   -- region 7
          refine wOps_op rfl (op_assign rfl rfl ?_)   -- t2 ← assign const int i64 0
          refine wOps_nil ?_
          refine mwp_ret ?_
          exact ret_tmp (.inr rfl) Try.results45 rfl (.refl _) (.int _ _) ⟨by simp_all [partsF], rfl⟩
        · -- no
          refine mwp_region rfl ?_   -- region 6
          refine wOps_op rfl (op_cmp rfl rfl rfl rfl ?_)   -- t9 ← binOp eql 3 tmp 3 const int i64 7 3
          refine wOps_op rfl (op_assign rfl rfl ?_)   -- t4 ← assign tmp 9
          refine wOps_nil ?_
          refine mwp_cond_split rfl (fun h4 => ?_) (fun h4 => ?_)   -- if t4
          · -- yes
            refine mwp_seq ?_
            refine mwp_region rfl ?_   -- region 7
            refine wOps_op rfl (op_assign rfl rfl ?_)   -- t2 ← assign const int i64 0
            refine wOps_nil ?_
            refine mwp_ret ?_
            exact ret_tmp (.inr rfl) Try.results45 rfl (.refl _) (.int _ _) ⟨by simp_all [partsF], rfl⟩
          · -- no
            refine mwp_seq ?_
            refine mwp_seq ?_
            refine mwp_region rfl ?_   -- region 8
            refine wOps_op rfl (op_cmp rfl rfl rfl rfl ?_)   -- t11 ← binOp eql 3 tmp 3 const int i64 4 3
            refine wOps_op rfl (op_assign rfl rfl ?_)   -- t10 ← assign tmp 11
            refine wOps_nil ?_
            refine mwp_cond_split rfl (fun h10 => ?_) (fun h10 => ?_)   -- if t10
            · -- yes
              refine mwp_skip ?_
              refine mwp_cond_t rfl h10 ?_   -- if t10
              refine mwp_seq ?_
              refine mwp_region rfl ?_   -- region 10
              refine wOps_op rfl (op_assign rfl rfl ?_)   -- t2 ← assign const int i64 1
              refine wOps_nil ?_
              refine mwp_ret ?_
              exact ret_tmp (.inr rfl) Try.results45 rfl (.refl _) (.int _ _) ⟨by simp_all [partsF], rfl⟩
            · -- no
              refine mwp_region rfl ?_   -- region 9
              refine wOps_op rfl (op_cmp rfl rfl rfl rfl ?_)   -- t12 ← binOp eql 3 tmp 3 const int i64 8 3
              refine wOps_op rfl (op_assign rfl rfl ?_)   -- t10 ← assign tmp 12
              refine wOps_nil ?_
              refine mwp_cond_split rfl (fun h10 => ?_) (fun h10 => ?_)   -- if t10
              · -- yes
                refine mwp_seq ?_
                refine mwp_region rfl ?_   -- region 10
                refine wOps_op rfl (op_assign rfl rfl ?_)   -- t2 ← assign const int i64 1
                refine wOps_nil ?_
                refine mwp_ret ?_
                exact ret_tmp (.inr rfl) Try.results45 rfl (.refl _) (.int _ _) ⟨by simp_all [partsF], rfl⟩
              · -- no
                refine mwp_seq ?_
                refine mwp_region rfl ?_   -- region 11
                refine wOps_op rfl (op_cmp rfl rfl rfl rfl ?_)   -- t14 ← binOp eql 3 tmp 3 const int i64 5 3
                refine wOps_op rfl (op_assign rfl rfl ?_)   -- t13 ← assign tmp 14
                refine wOps_nil ?_
                refine mwp_cond_split rfl (fun h13 => ?_) (fun h13 => ?_)   -- if t13
                · -- yes
                  refine mwp_seq ?_
                  refine mwp_region rfl ?_   -- region 12
                  refine wOps_op rfl (op_assign rfl rfl ?_)   -- t2 ← assign const int i64 2
                  refine wOps_nil ?_
                  refine mwp_ret ?_
                  exact ret_tmp (.inr rfl) Try.results45 rfl (.refl _) (.int _ _) ⟨by simp_all [partsF], rfl⟩
                · -- no
                  refine mwp_skip ?_
                  refine mwp_seq ?_
                  refine mwp_region rfl ?_   -- region 13
                  refine wOps_op rfl (op_assign rfl rfl ?_)   -- t2 ← assign const int i64 -1
                  refine wOps_nil ?_
                  refine mwp_ret ?_
                  exact ret_tmp (.inr rfl) Try.results45 rfl (.refl _) (.int _ _) ⟨by simp_all [partsF], rfl⟩

theorem rIs_spec (d : Nat) : d < 1000 → ∀ (s : Sch) (S : MS), MCalls Try.prog 32 [encS s, .int .i64 (d : Int)] S fun v σ' => v = .bool (isF d s) ∧ σ' = S := by
  induction d with
  | zero =>
    rintro - ⟨k, ins⟩ S
    refine mcalls_body Try.func32 rfl Try.ntmps32 (Nat.le_of_ble_eq_true rfl) ?_
    refine mwp_seq ?_
    refine mwp_region rfl ?_   -- region 0
    refine wOps_op rfl (op_box' rfl rfl rfl rfl ?_)   -- t2 ← box 24 tmp 0
    refine wOps_op rfl (op_assign rfl rfl ?_)   -- t4 ← assign const bool false
    refine wOps_nil ?_
    refine mwp_seq ?_
    refine mwp_seq ?_
    refine mwp_draw [] [_] mo (by decide) rfl rfl rfl rfl ?_   -- region 1
    refine dOps_op rfl rfl (.cons (op_move rfl rfl ⟨rfl, rfl⟩) .nil) ?_   -- t6 ← move tmp 1
    refine dOps_op rfl rfl (.cons (op_cmp rfl rfl rfl rfl ⟨rfl, rfl⟩) .nil) ?_   -- t7 ← binOp leq 3 tmp 6 const int i64 0 3
    refine dOps_op rfl rfl (.cons (op_move rfl rfl ⟨rfl, rfl⟩) .nil) ?_   -- t8 ← move tmp 7
    refine dOps_skip rfl rfl ?_
    refine dOps_skip rfl rfl ?_
    refine dOps_skip rfl rfl ?_
    refine dOps_skip rfl rfl ?_
    refine dOps_skip rfl rfl ?_
    refine dOps_skip rfl rfl ?_
    refine dOps_skip rfl rfl ?_
    refine dOps_op rfl rfl (.cons (op_pick rfl rfl rfl ⟨rfl, rfl⟩) .nil) ?_   -- t16 ← pick tmp 8 const bool true tmp 15
    refine dOps_nil ?_
    refine mwp_cond_t rfl (rfl) ?_   -- if t16
    refine mwp_seq ?_
    refine mwp_region rfl ?_   -- region 2
    refine wOps_op rfl (op_assign rfl rfl ?_)   -- t4 ← assign const bool false
    refine wOps_nil ?_
    refine mwp_ret ?_
    exact ret_tmp (.inr rfl) Try.results32 rfl (.refl _) (.bool _) ⟨by simp [isF], rfl⟩
  | succ d ih =>
    rintro hd ⟨k, ins⟩ S
    have h0 : decide (((d + 1 : Nat) : Int) ≤ 0) = false := by simp <;> omega
    have hsub : IntKind.i64.wrap (((d + 1 : Nat) : Int) - 1) = (d : Int) := by rw [wrap_i64 (by omega)]; omega
    refine mcalls_body Try.func32 rfl Try.ntmps32 (Nat.le_of_ble_eq_true rfl) ?_
    refine mwp_seq ?_
    refine mwp_region rfl ?_   -- region 0
    refine wOps_op rfl (op_box' rfl rfl rfl rfl ?_)   -- t2 ← box 24 tmp 0
    refine wOps_op rfl (op_assign rfl rfl ?_)   -- t4 ← assign const bool false
    refine wOps_nil ?_
    refine mwp_seq ?_
    refine mwp_seq ?_
    refine mwp_draw [] [_] mo (by decide) rfl rfl rfl rfl ?_   -- region 1
    refine dOps_op rfl rfl (.cons (op_move rfl rfl ⟨rfl, rfl⟩) .nil) ?_   -- t6 ← move tmp 1
    refine dOps_op rfl rfl (.cons (op_cmp rfl rfl rfl rfl ⟨rfl, rfl⟩) .nil) ?_   -- t7 ← binOp leq 3 tmp 6 const int i64 0 3
    rw [h0]
    refine dOps_op rfl rfl (.cons (op_move rfl rfl ⟨rfl, rfl⟩) .nil) ?_   -- t8 ← move tmp 7
    refine dOps_op rfl rfl (.cons (op_fieldAddr_ref rfl rfl fo24_1 ⟨rfl, rfl⟩) .nil) ?_   -- t9 ← fieldAddr 24 tmp 2 1  GUARD
    refine dOps_op rfl rfl (.cons (op_load' rfl rfl rfl ta22 rfl ⟨rfl, rfl⟩) .nil) ?_   -- t10 ← load 22 tmp 9  GUARD
    refine dOps_op rfl rfl (.cons (op_len_lst rfl Try.underlying22 rfl ⟨rfl, rfl⟩) .nil) ?_   -- t11 ← call ('rec', {'callee': ('app', 'builtin', [('id', 'Go.Builtin.le  GUARD
    refine dOps_op rfl rfl (.cons (op_fieldAddr_ref rfl rfl fo24_0 ⟨rfl, rfl⟩) .nil) ?_   -- t12 ← fieldAddr 24 tmp 2 0  GUARD
    refine dOps_op rfl rfl (.cons (op_load' rfl rfl rfl ta3 rfl ⟨rfl, rfl⟩) .nil) ?_   -- t13 ← load 3 tmp 12  GUARD
    refine dOps_op rfl rfl (.cons (op_call rfl rfl rfl co45 (arity_spec _ _)) .nil) ?_   -- t14 ← call ('rec', {'callee': ('app', 'value', [('app', 'func', [45])])  GUARD
    refine dOps_op rfl rfl (.cons (op_cmp rfl rfl rfl rfl ⟨rfl, rfl⟩) .nil) ?_   -- t15 ← binOp neq 3 tmp 11 tmp 14 3  GUARD
    refine dOps_op rfl rfl (.cons (op_pick rfl rfl rfl ⟨rfl, rfl⟩) .nil) ?_   -- t16 ← pick tmp 8 const bool true tmp 15
    refine dOps_nil ?_
    refine mwp_cond_split rfl (fun h16 => ?_) (fun h16 => ?_)   -- if t16
    · -- yes
      refine mwp_seq ?_
      refine mwp_region rfl ?_   -- region 2
      refine wOps_op rfl (op_assign rfl rfl ?_)   -- t4 ← assign const bool false
      refine wOps_nil ?_
      refine mwp_ret ?_
      exact ret_tmp (.inr rfl) Try.results32 rfl (.refl _) (.bool _) ⟨by rw [encSs_length] at h16; simp at h16; simp [isF]; try (intro h; exact absurd h.symm h16), rfl⟩
    · -- no
      refine mwp_len (t := 10) rfl fun hlen => ?_
      rw [encSs_length] at hlen
      refine mwp_skip ?_
      refine mwp_seq ?_
      refine mwp_seq ?_
      refine mwp_region rfl ?_   -- region 3
      refine wOps_op rfl (op_assign rfl rfl ?_)   -- t5 ← assign const int i64 0
      refine wOps_nil ?_
      refine mwp_block ?_   -- block 0
      refine mwp_loop0 (α := Nat) (fun i => [(1, .int .i64 ((d + 1 : Nat) : Int)), (2, .ref (S.length + 0) 0), (5, .int .i64 (i : Int))]) (fun i => [.cells [.int .i64 k, .lst none 2 (encSs ins)]]) (fun i => i ≤ ins.length ∧ (ins.take i).all (isF d) = true) (fun i => ins.length - i) (0) ⟨by omega, rfl⟩ rfl (.keep rfl (.keep rfl (.keep rfl .nil))) ?_
      rintro i ⟨hi, hall⟩
      refine mwp_seq ?_
      refine mwp_seq ?_
      refine mwp_region rfl ?_   -- region 4
      refine wOps_op rfl (op_move rfl rfl ?_)   -- t17 ← move tmp 5
      refine wOps_op rfl (op_fieldAddr_ref rfl rfl fo24_1 ?_)   -- t18 ← fieldAddr 24 tmp 2 1
      refine wOps_op rfl (op_load' rfl rfl rfl ta22 rfl ?_)   -- t19 ← load 22 tmp 18
      refine wOps_op rfl (op_len_lst rfl Try.underlying22 rfl ?_)   -- t20 ← call ('rec', {'callee': ('app', 'builtin', [('id', 'Go.Builtin.le
      refine wOps_op rfl (op_cmp rfl rfl rfl rfl ?_)   -- t21 ← binOp lss 3 tmp 17 tmp 20 3
      refine wOps_nil ?_
      refine mwp_cond_split rfl (fun h21 => ?_) (fun h21 => ?_)   -- if t21
      · -- yes
        have hlt : i < ins.length := by rw [encSs_length] at h21; simpa using h21
        obtain ⟨⟨k2, ins2⟩, hs⟩ : ∃ s, ins[i]? = some s := ⟨_, List.getElem?_eq_getElem hlt⟩
        refine mwp_skip ?_
        refine mwp_seq ?_
        refine mwp_block ?_   -- block 1
        refine mwp_seq ?_
        refine mwp_region rfl ?_   -- region 6
        refine wOps_op rfl (op_fieldAddr_ref rfl rfl fo24_1 ?_)   -- t24 ← fieldAddr 24 tmp 2 1
        refine wOps_op rfl (op_load' rfl rfl rfl ta22 rfl ?_)   -- t25 ← load 22 tmp 24
        refine wOps_op rfl (op_move rfl rfl ?_)   -- t26 ← move tmp 5
        refine wOps_op rfl (op_indexAddr rfl Try.underlying22 sz24 (by decide) rfl rfl rfl (encSs_get hs) ?_)   -- t27 ← indexAddr 22 tmp 25 tmp 26
        refine wOps_op rfl (op_load_sptr rfl rfl ta24 rfl ?_)   -- t28 ← load 24 tmp 27
        refine wOps_op rfl (op_move rfl rfl ?_)   -- t29 ← move tmp 1
        refine wOps_op rfl (op_arith rfl rfl rfl rfl ?_)   -- t30 ← binOp sub 3 tmp 29 const int i64 1 3
        rw [hsub]
        refine wOps_op rfl (op_call rfl rfl rfl co32 ((ih (by omega) (.mk k2 ins2) _).mono ?_))   -- t31 ← call ('rec', {'callee': ('app', 'value', [('app', 'func', [32])])
        rintro _ _ ⟨rfl, rfl⟩
        refine wOps_op rfl (op_not rfl rfl ?_)   -- t32 ← unOp not 4 tmp 31
        refine wOps_nil ?_
        refine mwp_cond_split rfl (fun h32 => ?_) (fun h32 => ?_)   -- if t32
        · -- yes
          refine mwp_seq ?_
          refine mwp_region rfl ?_   -- region 7
          refine wOps_op rfl (op_assign rfl rfl ?_)   -- t4 ← assign const bool false
          refine wOps_nil ?_
          refine mwp_ret ?_
          exact ret_tmp (.inr rfl) Try.results32 rfl (.refl _) (.bool _) ⟨by simp only [isF]; rw [List.all_eq_false.2 ⟨_, List.mem_of_getElem? hs, by simpa using h32⟩]; simp, rfl⟩
        · -- no
          refine mwp_skip ?_
          refine mwp_region rfl ?_   -- region 5
          refine wOps_op rfl (op_move rfl rfl ?_)   -- t22 ← move tmp 5
          refine wOps_op rfl (op_arith rfl rfl rfl rfl ?_)   -- t23 ← binOp add 3 tmp 22 const int i64 1 3
          refine wOps_op rfl (op_assign rfl rfl ?_)   -- t5 ← assign tmp 23
          refine wOps_nil ?_
          refine ⟨i + 1, by omega, ⟨by omega, ?_⟩, rfl, .keep rfl (.keep rfl (.eq rfl (int_succ hlt hlen) .nil))⟩
          rw [List.take_add_one, hs]
          simp [hall]
          simpa using h32
      · -- no
        have hge : i = ins.length := by rw [encSs_length] at h21; simp at h21; omega
        refine mwp_exit ?_
        refine mwp_seq ?_
        refine mwp_region rfl ?_   -- region 8
        refine wOps_op rfl (op_assign rfl rfl ?_)   -- t4 ← assign const bool true
        refine wOps_nil ?_
        refine mwp_ret ?_
        exact ret_tmp (.inr rfl) Try.results32 rfl (.refl _) (.bool _) ⟨by rw [hge, List.take_length] at hall; rw [encSs_length] at h16; simp at h16; simp [isF, hall, h16], rfl⟩

theorem rIsSchema_spec (s : Sch) (S : MS) : MCalls Try.prog 9 [encS s] S fun v σ' => v = .bool (isF 16 s) ∧ σ' = S := by
  obtain ⟨k, ins⟩ := s
  refine mcalls_body Try.func9 rfl Try.ntmps9 (Nat.le_of_ble_eq_true rfl) ?_
  refine mwp_seq ?_
  refine mwp_region rfl ?_   -- region 0
  refine wOps_op rfl (op_box' rfl rfl rfl rfl ?_)   -- t1 ← box 24 tmp 0
  refine wOps_op rfl (op_assign rfl rfl ?_)   -- t2 ← assign const bool false
  refine wOps_nil ?_
  refine mwp_seq ?_
  refine mwp_region rfl ?_   -- region 1
  refine wOps_op rfl (op_load' rfl rfl rfl ta24 rfl ?_)   -- t3 ← load 24 tmp 1
  refine wOps_op rfl (op_call rfl rfl rfl co32 ((rIs_spec 16 (by omega) (.mk k ins) _).mono ?_))   -- t4 ← call ('rec', {'callee': ('app', 'value', [('app', 'func', [32])])
  rintro _ _ ⟨rfl, rfl⟩
  refine wOps_op rfl (op_assign rfl rfl ?_)   -- t2 ← assign tmp 4
  refine wOps_nil ?_
  refine mwp_ret ?_
  exact ret_tmp (.inr rfl) Try.results9 rfl (.refl _) (.bool _) ⟨rfl, rfl⟩

theorem rdeep_spec (most : Nat) : most < 1000 → ∀ (s : Sch) (S : MS), MCalls Try.prog 34 [encS s, .int .i64 (most : Int)] S fun v σ' => v = .int .i64 ((min most (depth s) : Nat) : Int) ∧ σ' = S := by
  induction most using Nat.strongRecOn with
  | _ most ih =>
  rintro hm ⟨k, ins⟩ S
  refine mcalls_body Try.func34 rfl Try.ntmps34 (Nat.le_of_ble_eq_true rfl) ?_
  refine mwp_seq ?_
  refine mwp_region rfl ?_   -- region 0
  refine wOps_op rfl (op_box' rfl rfl rfl rfl ?_)   -- t2 ← box 24 tmp 0
  refine wOps_op rfl (op_assign rfl rfl ?_)   -- t4 ← assign const int i64 0
  refine wOps_nil ?_
  refine mwp_seq ?_
  refine mwp_seq ?_
  refine mwp_region rfl ?_   -- region 1
  refine wOps_op rfl (op_move rfl rfl ?_)   -- t7 ← move tmp 1
  refine wOps_op rfl (op_cmp rfl rfl rfl rfl ?_)   -- t8 ← binOp leq 3 tmp 7 const int i64 0 3
  refine wOps_nil ?_
  refine mwp_cond_split rfl (fun h8 => ?_) (fun h8 => ?_)   -- if t8
  · -- yes
    refine mwp_seq ?_
    refine mwp_region rfl ?_   -- region 2
    refine wOps_op rfl (op_assign rfl rfl ?_)   -- t4 ← assign const int i64 0
    refine wOps_nil ?_
    refine mwp_ret ?_
    exact ret_tmp (.inr rfl) Try.results34 rfl (.refl _) (.int _ _) ⟨by simp at h8; congr 1; omega, rfl⟩
  · -- no
    have hm2 : 0 < most := by simp at h8; omega
    have hsub : IntKind.i64.wrap ((most : Int) - 1) = ((most - 1 : Nat) : Int) := by rw [wrap_i64 (by omega)]; omega
    refine mwp_skip ?_
    refine mwp_seq ?_
    refine mwp_region rfl ?_   -- region 3
    refine wOps_op rfl (op_assign rfl rfl ?_)   -- t5 ← assign const int i64 0
    refine wOps_nil ?_
    refine mwp_seq ?_
    refine mwp_seq ?_
    refine mwp_region rfl ?_   -- region 4
    refine wOps_op rfl (op_assign rfl rfl ?_)   -- t6 ← assign const int i64 0
    refine wOps_nil ?_
    refine mwp_block ?_   -- block 0
    refine mwp_loop0 (α := Nat) (fun i => [(1, .int .i64 (most : Int)), (2, .ref (S.length + 0) 0), (5, .int .i64 ((min (most - 1) (depthL (ins.take i)) : Nat) : Int)), (6, .int .i64 (i : Int))]) (fun i => [.cells [.int .i64 k, .lst none 2 (encSs ins)]]) (fun i => i ≤ ins.length) (fun i => ins.length - i) (0) (by omega) rfl (.keep rfl (.keep rfl (.eq rfl (by rw [List.take_zero]; simp [depthL]) (.keep rfl .nil)))) ?_
    intro i hi
    refine mwp_seq ?_
    refine mwp_seq ?_
    refine mwp_region rfl ?_   -- region 5
    refine wOps_op rfl (op_move rfl rfl ?_)   -- t9 ← move tmp 6
    refine wOps_op rfl (op_fieldAddr_ref rfl rfl fo24_1 ?_)   -- t10 ← fieldAddr 24 tmp 2 1
    refine wOps_op rfl (op_load' rfl rfl rfl ta22 rfl ?_)   -- t11 ← load 22 tmp 10
    refine wOps_op rfl (op_len_lst rfl Try.underlying22 rfl ?_)   -- t12 ← call ('rec', {'callee': ('app', 'builtin', [('id', 'Go.Builtin.le
    refine wOps_op rfl (op_cmp rfl rfl rfl rfl ?_)   -- t13 ← binOp lss 3 tmp 9 tmp 12 3
    refine wOps_nil ?_
    refine mwp_cond_split rfl (fun h13 => ?_) (fun h13 => ?_)   -- if t13
    · -- yes
      refine mwp_len (t := 11) rfl fun hlen => ?_
      rw [encSs_length] at hlen
      have hlt : i < ins.length := by rw [encSs_length] at h13; simpa using h13
      obtain ⟨⟨k2, ins2⟩, hs⟩ : ∃ s, ins[i]? = some s := ⟨_, List.getElem?_eq_getElem hlt⟩
      have hdl := depthL_succ hs
      refine mwp_skip ?_
      refine mwp_seq ?_
      refine mwp_block ?_   -- block 1
      refine mwp_region rfl ?_   -- region 7
      refine wOps_op rfl (op_move rfl rfl ?_)   -- t16 ← move tmp 5
      refine wOps_op rfl (op_fieldAddr_ref rfl rfl fo24_1 ?_)   -- t17 ← fieldAddr 24 tmp 2 1
      refine wOps_op rfl (op_load' rfl rfl rfl ta22 rfl ?_)   -- t18 ← load 22 tmp 17
      refine wOps_op rfl (op_move rfl rfl ?_)   -- t19 ← move tmp 6
      refine wOps_op rfl (op_indexAddr rfl Try.underlying22 sz24 (by decide) rfl rfl rfl (encSs_get hs) ?_)   -- t20 ← indexAddr 22 tmp 18 tmp 19
      refine wOps_op rfl (op_load_sptr rfl rfl ta24 rfl ?_)   -- t21 ← load 24 tmp 20
      refine wOps_op rfl (op_move rfl rfl ?_)   -- t22 ← move tmp 1
      refine wOps_op rfl (op_arith rfl rfl rfl rfl ?_)   -- t23 ← binOp sub 3 tmp 22 const int i64 1 3
      rw [hsub]
      refine wOps_op rfl (op_call rfl rfl rfl co34 ((ih (most - 1) (by omega) (by omega) (.mk k2 ins2) _).mono ?_))   -- t24 ← call ('rec', {'callee': ('app', 'value', [('app', 'func', [34])])
      rintro _ _ ⟨rfl, rfl⟩
      refine wOps_op rfl (op_max2 rfl rfl rfl ?_)   -- t25 ← call ('rec', {'callee': ('app', 'builtin', [('id', 'Go.Builtin.ma
      refine wOps_op rfl (op_assign rfl rfl ?_)   -- t5 ← assign tmp 25
      refine wOps_nil ?_
      refine mwp_region rfl ?_   -- region 6
      refine wOps_op rfl (op_move rfl rfl ?_)   -- t14 ← move tmp 6
      refine wOps_op rfl (op_arith rfl rfl rfl rfl ?_)   -- t15 ← binOp add 3 tmp 14 const int i64 1 3
      refine wOps_op rfl (op_assign rfl rfl ?_)   -- t6 ← assign tmp 15
      refine wOps_nil ?_
      refine ⟨i + 1, by omega, by omega, rfl, .keep rfl (.keep rfl (.eq rfl ?_ (.eq rfl (int_succ hlt hlen) .nil)))⟩
      congr 1
      rw [hdl]
      split <;> omega
    · -- no
      have hge : i = ins.length := by rw [encSs_length] at h13; simp at h13; omega
      have hadd : IntKind.i64.wrap (((min (most - 1) (depthL (ins.take i)) : Nat) : Int) + 1) = ((min (most - 1) (depthL (ins.take i)) + 1 : Nat) : Int) := by rw [wrap_i64 (by omega)]; omega
      refine mwp_exit ?_
      refine mwp_seq ?_
      refine mwp_region rfl ?_   -- region 8
      refine wOps_op rfl (op_move rfl rfl ?_)   -- t26 ← move tmp 5
      refine wOps_op rfl (op_arith rfl rfl rfl rfl ?_)   -- t27 ← binOp add 3 tmp 26 const int i64 1 3
      rw [hadd]
      refine wOps_op rfl (op_assign rfl rfl ?_)   -- t4 ← assign tmp 27
      refine wOps_nil ?_
      refine mwp_ret ?_
      exact ret_tmp (.inr rfl) Try.results34 rfl (.refl _) (.int _ _) ⟨by rw [hge, List.take_length]; congr 1; show _ = ((min most (1 + depthL ins) : Nat) : Int); omega, rfl⟩

theorem rDeep_spec (s : Sch) (S : MS) : MCalls Try.prog 11 [encS s] S fun v σ' => v = .int .i64 ((min 17 (depth s) : Nat) : Int) ∧ σ' = S := by
  obtain ⟨k, ins⟩ := s
  refine mcalls_body Try.func11 rfl Try.ntmps11 (Nat.le_of_ble_eq_true rfl) ?_
  refine mwp_seq ?_
  refine mwp_region rfl ?_   -- region 0
  refine wOps_op rfl (op_box' rfl rfl rfl rfl ?_)   -- t1 ← box 24 tmp 0
  refine wOps_op rfl (op_assign rfl rfl ?_)   -- t2 ← assign const int i64 0
  refine wOps_nil ?_
  refine mwp_seq ?_
  refine mwp_region rfl ?_   -- region 1
  refine wOps_op rfl (op_load' rfl rfl rfl ta24 rfl ?_)   -- t3 ← load 24 tmp 1
  refine wOps_op rfl (op_call rfl rfl rfl co34 ((rdeep_spec 17 (by omega) (.mk k ins) _).mono ?_))   -- t4 ← call ('rec', {'callee': ('app', 'value', [('app', 'func', [34])])
  rintro _ _ ⟨rfl, rfl⟩
  refine wOps_op rfl (op_assign rfl rfl ?_)   -- t2 ← assign tmp 4
  refine wOps_nil ?_
  refine mwp_ret ?_
  exact ret_tmp (.inr rfl) Try.results11 rfl (.refl _) (.int _ _) ⟨rfl, rfl⟩

theorem rSame_spec (n : Nat) : ∀ (x y : Sch), depth x ≤ n → ∀ S : MS, MCalls Try.prog 13 [encS x, encS y] S fun v σ' => v = .bool (decide (x = y)) ∧ σ' = S := by
  induction n with
  | zero => rintro ⟨k, ins⟩ b h; simp [depth] at h
  | succ n ih =>
  rintro ⟨k, a⟩ ⟨k2, b⟩ hd S
  have hmem : ∀ x ∈ a, depth x ≤ n := by
    intro x hx
    obtain ⟨i, hi⟩ := List.getElem?_of_mem hx
    have h1 := depthL_succ hi
    have h2 := depthL_le a (i + 1)
    simp only [depth] at hd
    omega
  by_cases hk : k = k2
  · have hkb : (k != k2) = false := by simpa using hk
    refine mcalls_body Try.func13 rfl Try.ntmps13 (Nat.le_of_ble_eq_true rfl) ?_
    refine mwp_seq ?_
    refine mwp_region rfl ?_   -- region 0
    refine wOps_op rfl (op_box' rfl rfl rfl rfl ?_)   -- t2 ← box 24 tmp 0
    refine wOps_op rfl (op_box' rfl rfl rfl rfl ?_)   -- t3 ← box 24 tmp 1
    refine wOps_op rfl (op_assign rfl rfl ?_)   -- t4 ← assign const bool false
    refine wOps_nil ?_
    refine mwp_seq ?_
    refine mwp_seq ?_
    refine mwp_region rfl ?_   -- region 1
    refine wOps_op rfl (op_fieldAddr_ref rfl rfl fo24_0 ?_)   -- t6 ← fieldAddr 24 tmp 2 0
    refine wOps_op rfl (op_load' rfl rfl rfl ta3 rfl ?_)   -- t7 ← load 3 tmp 6
    refine wOps_op rfl (op_fieldAddr_ref rfl rfl fo24_0 ?_)   -- t8 ← fieldAddr 24 tmp 3 0
    refine wOps_op rfl (op_load' rfl rfl rfl ta3 rfl ?_)   -- t9 ← load 3 tmp 8
    refine wOps_op rfl (op_cmp rfl rfl rfl rfl ?_)   -- t10 ← binOp neq 3 tmp 7 tmp 9 3
    rw [hkb]
    refine wOps_op rfl (op_move rfl rfl ?_)   -- t11 ← move tmp 10
    refine wOps_op rfl (op_fieldAddr_ref rfl rfl fo24_1 ?_)   -- t12 ← fieldAddr 24 tmp 2 1  GUARD
    refine wOps_op rfl (op_load' rfl rfl rfl ta22 rfl ?_)   -- t13 ← load 22 tmp 12  GUARD
    refine wOps_op rfl (op_len_lst rfl Try.underlying22 rfl ?_)   -- t14 ← call ('rec', {'callee': ('app', 'builtin', [('id', 'Go.Builtin.le  GUARD
    refine wOps_op rfl (op_fieldAddr_ref rfl rfl fo24_1 ?_)   -- t15 ← fieldAddr 24 tmp 3 1  GUARD
    refine wOps_op rfl (op_load' rfl rfl rfl ta22 rfl ?_)   -- t16 ← load 22 tmp 15  GUARD
    refine wOps_op rfl (op_len_lst rfl Try.underlying22 rfl ?_)   -- t17 ← call ('rec', {'callee': ('app', 'builtin', [('id', 'Go.Builtin.le  GUARD
    refine wOps_op rfl (op_cmp rfl rfl rfl rfl ?_)   -- t18 ← binOp neq 3 tmp 14 tmp 17 3  GUARD
    refine wOps_op rfl (op_pick rfl rfl rfl ?_)   -- t19 ← pick tmp 11 const bool true tmp 18
    refine wOps_nil ?_
    refine mwp_cond_split rfl (fun h19 => ?_) (fun h19 => ?_)   -- if t19
    · -- yes
      refine mwp_seq ?_
      refine mwp_region rfl ?_   -- region 2
      refine wOps_op rfl (op_assign rfl rfl ?_)   -- t4 ← assign const bool false
      refine wOps_nil ?_
      refine mwp_ret ?_
      exact ret_tmp (.inr rfl) Try.results13 rfl (.refl _) (.bool _) ⟨by rw [encSs_length, encSs_length] at h19; simp at h19; congr 1; symm; rw [decide_eq_false_iff_not]; intro e; injection e with e1 e2; exact h19 (by rw [e2]), rfl⟩
    · -- no
      refine mwp_len (t := 13) rfl fun hlen => ?_
      rw [encSs_length] at hlen
      have hab : a.length = b.length := by rw [encSs_length, encSs_length] at h19; simp at h19; omega
      refine mwp_skip ?_
      refine mwp_seq ?_
      refine mwp_seq ?_
      refine mwp_region rfl ?_   -- region 3
      refine wOps_op rfl (op_assign rfl rfl ?_)   -- t5 ← assign const int i64 0
      refine wOps_nil ?_
      refine mwp_block ?_   -- block 0
      refine mwp_loop0 (α := Nat) (fun i => [(2, .ref (S.length + 0) 0), (3, .ref (S.length + 1) 0), (5, .int .i64 (i : Int))]) (fun i => [.cells [.int .i64 k, .lst none 2 (encSs a)], .cells [.int .i64 k2, .lst none 2 (encSs b)]]) (fun i => i ≤ a.length ∧ a.take i = b.take i) (fun i => a.length - i) (0) ⟨by omega, rfl⟩ rfl (.keep rfl (.keep rfl (.keep rfl .nil))) ?_
      rintro i ⟨hi, heq⟩
      refine mwp_seq ?_
      refine mwp_seq ?_
      refine mwp_region rfl ?_   -- region 4
      refine wOps_op rfl (op_move rfl rfl ?_)   -- t20 ← move tmp 5
      refine wOps_op rfl (op_fieldAddr_ref rfl rfl fo24_1 ?_)   -- t21 ← fieldAddr 24 tmp 2 1
      refine wOps_op rfl (op_load' rfl rfl rfl ta22 rfl ?_)   -- t22 ← load 22 tmp 21
      refine wOps_op rfl (op_len_lst rfl Try.underlying22 rfl ?_)   -- t23 ← call ('rec', {'callee': ('app', 'builtin', [('id', 'Go.Builtin.le
      refine wOps_op rfl (op_cmp rfl rfl rfl rfl ?_)   -- t24 ← binOp lss 3 tmp 20 tmp 23 3
      refine wOps_nil ?_
      refine mwp_cond_split rfl (fun h24 => ?_) (fun h24 => ?_)   -- if t24
      · -- yes
        have hlt : i < a.length := by rw [encSs_length] at h24; simpa using h24
        obtain ⟨⟨k3, ins3⟩, hs⟩ : ∃ s, a[i]? = some s := ⟨_, List.getElem?_eq_getElem hlt⟩
        obtain ⟨⟨k4, ins4⟩, hs2⟩ : ∃ s, b[i]? = some s := ⟨_, List.getElem?_eq_getElem (by omega)⟩
        refine mwp_skip ?_
        refine mwp_seq ?_
        refine mwp_block ?_   -- block 1
        refine mwp_seq ?_
        refine mwp_draw [] [_] mo (by decide) rfl rfl rfl rfl ?_   -- region 6
        refine dOps_op rfl rfl (.cons (op_fieldAddr_ref rfl rfl fo24_1 ⟨rfl, rfl⟩) .nil) ?_   -- t27 ← fieldAddr 24 tmp 2 1
        refine dOps_op rfl rfl (.cons (op_load' rfl rfl rfl ta22 rfl ⟨rfl, rfl⟩) .nil) ?_   -- t28 ← load 22 tmp 27
        refine dOps_op rfl rfl (.cons (op_move rfl rfl ⟨rfl, rfl⟩) .nil) ?_   -- t29 ← move tmp 5
        refine dOps_op rfl rfl (.cons (op_indexAddr rfl Try.underlying22 sz24 (by decide) rfl rfl rfl (encSs_get hs) ⟨rfl, rfl⟩) .nil) ?_   -- t30 ← indexAddr 22 tmp 28 tmp 29
        refine dOps_op rfl rfl (.cons (op_load_sptr rfl rfl ta24 rfl ⟨rfl, rfl⟩) .nil) ?_   -- t31 ← load 24 tmp 30
        refine dOps_op rfl rfl (.cons (op_fieldAddr_ref rfl rfl fo24_1 ⟨rfl, rfl⟩) .nil) ?_   -- t32 ← fieldAddr 24 tmp 3 1
        refine dOps_op rfl rfl (.cons (op_load' rfl rfl rfl ta22 rfl ⟨rfl, rfl⟩) .nil) ?_   -- t33 ← load 22 tmp 32
        refine dOps_op rfl rfl (.cons (op_move rfl rfl ⟨rfl, rfl⟩) .nil) ?_   -- t34 ← move tmp 5
        refine dOps_op rfl rfl (.cons (op_indexAddr rfl Try.underlying22 sz24 (by decide) rfl rfl rfl (encSs_get hs2) ⟨rfl, rfl⟩) .nil) ?_   -- t35 ← indexAddr 22 tmp 33 tmp 34
        refine dOps_op rfl rfl (.cons (op_load_sptr rfl rfl ta24 rfl ⟨rfl, rfl⟩) .nil) ?_   -- t36 ← load 24 tmp 35
        refine dOps_op rfl rfl (.cons (op_call rfl rfl rfl co13 (ih (.mk k3 ins3) (.mk k4 ins4) (hmem _ (List.mem_of_getElem? hs)) _)) .nil) ?_   -- t37 ← call ('rec', {'callee': ('app', 'value', [('app', 'func', [13])])
        refine dOps_op rfl rfl (.cons (op_not rfl rfl ⟨rfl, rfl⟩) .nil) ?_   -- t38 ← unOp not 4 tmp 37
        refine dOps_nil ?_
        refine mwp_cond_split rfl (fun h38 => ?_) (fun h38 => ?_)   -- if t38
        · -- yes
          refine mwp_seq ?_
          refine mwp_region rfl ?_   -- region 7
          refine wOps_op rfl (op_assign rfl rfl ?_)   -- t4 ← assign const bool false
          refine wOps_nil ?_
          refine mwp_ret ?_
          exact ret_tmp (.inr rfl) Try.results13 rfl (.refl _) (.bool _) ⟨by congr 1; symm; rw [decide_eq_false_iff_not]; intro e; injection e with e1 e2; rw [e2, hs2] at hs; injection hs with hs; simp [hs] at h38, rfl⟩
        · -- no
          refine mwp_skip ?_
          refine mwp_region rfl ?_   -- region 5
          refine wOps_op rfl (op_move rfl rfl ?_)   -- t25 ← move tmp 5
          refine wOps_op rfl (op_arith rfl rfl rfl rfl ?_)   -- t26 ← binOp add 3 tmp 25 const int i64 1 3
          refine wOps_op rfl (op_assign rfl rfl ?_)   -- t5 ← assign tmp 26
          refine wOps_nil ?_
          refine ⟨i + 1, by omega, ⟨by omega, ?_⟩, rfl, .keep rfl (.keep rfl (.eq rfl (int_succ hlt hlen) .nil))⟩
          rw [List.take_add_one, List.take_add_one, hs, hs2, heq]
          simp at h38
          rw [h38.1, h38.2]
      · -- no
        have hge : i = a.length := by rw [encSs_length] at h24; simp at h24; omega
        refine mwp_exit ?_
        refine mwp_seq ?_
        refine mwp_region rfl ?_   -- region 8
        refine wOps_op rfl (op_assign rfl rfl ?_)   -- t4 ← assign const bool true
        refine wOps_nil ?_
        refine mwp_ret ?_
        exact ret_tmp (.inr rfl) Try.results13 rfl (.refl _) (.bool _) ⟨by congr 1; symm; rw [decide_eq_true_iff]; rw [hge, List.take_length, hab, List.take_length] at heq; rw [hk, heq], rfl⟩
  · have hkb : (k != k2) = true := by simpa using hk
    refine mcalls_body Try.func13 rfl Try.ntmps13 (Nat.le_of_ble_eq_true rfl) ?_
    refine mwp_seq ?_
    refine mwp_region rfl ?_   -- region 0
    refine wOps_op rfl (op_box' rfl rfl rfl rfl ?_)   -- t2 ← box 24 tmp 0
    refine wOps_op rfl (op_box' rfl rfl rfl rfl ?_)   -- t3 ← box 24 tmp 1
    refine wOps_op rfl (op_assign rfl rfl ?_)   -- t4 ← assign const bool false
    refine wOps_nil ?_
    refine mwp_seq ?_
    refine mwp_seq ?_
    refine mwp_region rfl ?_   -- region 1
    refine wOps_op rfl (op_fieldAddr_ref rfl rfl fo24_0 ?_)   -- t6 ← fieldAddr 24 tmp 2 0
    refine wOps_op rfl (op_load' rfl rfl rfl ta3 rfl ?_)   -- t7 ← load 3 tmp 6
    refine wOps_op rfl (op_fieldAddr_ref rfl rfl fo24_0 ?_)   -- t8 ← fieldAddr 24 tmp 3 0
    refine wOps_op rfl (op_load' rfl rfl rfl ta3 rfl ?_)   -- t9 ← load 3 tmp 8
    refine wOps_op rfl (op_cmp rfl rfl rfl rfl ?_)   -- t10 ← binOp neq 3 tmp 7 tmp 9 3
    rw [hkb]
    refine wOps_op rfl (op_move rfl rfl ?_)   -- t11 ← move tmp 10
    refine wOps_skip rfl ?_
    refine wOps_skip rfl ?_
    refine wOps_skip rfl ?_
    refine wOps_skip rfl ?_
    refine wOps_skip rfl ?_
    refine wOps_skip rfl ?_
    refine wOps_skip rfl ?_
    refine wOps_op rfl (op_pick rfl rfl rfl ?_)   -- t19 ← pick tmp 11 const bool true tmp 18
    refine wOps_nil ?_
    refine mwp_cond_t rfl (rfl) ?_   -- if t19
    refine mwp_seq ?_
    refine mwp_region rfl ?_   -- region 2
    refine wOps_op rfl (op_assign rfl rfl ?_)   -- t4 ← assign const bool false
    refine wOps_nil ?_
    refine mwp_ret ?_
    exact ret_tmp (.inr rfl) Try.results13 rfl (.refl _) (.bool _) ⟨by congr 1; symm; rw [decide_eq_false_iff_not]; intro e; injection e with e1 e2; exact hk e1, rfl⟩

theorem rCause_spec (s : Sch) (S : MS) : MCalls Try.prog 17 [encS s] S fun v σ' => v = encS (causeS s) ∧ σ' = S := by
  obtain ⟨k, ins⟩ := s
  refine mcalls_body Try.func17 rfl Try.ntmps17 (Nat.le_of_ble_eq_true rfl) ?_
  refine mwp_seq ?_
  refine mwp_region rfl ?_   -- region 0
  refine wOps_op rfl (op_box' rfl rfl rfl rfl ?_)   -- t1 ← box 24 tmp 0
  refine wOps_op rfl (op_alloc' rfl zm24 rfl rfl ?_)   -- t2 ← alloc 24
  refine wOps_nil ?_
  refine mwp_seq ?_
  refine mwp_region rfl ?_   -- region 1
  refine wOps_op rfl (op_build rfl Try.underlying24 zm24 (.cons fo24_0 sz3 rfl rfl (by decide) .nil) (by kernel_rfl) ?_)   -- t4 ← build 24 [(0,const int i64 7)]
  refine wOps_op rfl (op_buildSlice rfl Try.underlying22 el24 rfl rfl (by decide) (by decide) rfl rfl ?_)   -- t5 ← buildSlice 22 1 [(0,tmp 4)]
  refine wOps_op rfl (op_build rfl Try.underlying24 zm24 (.cons fo24_0 sz3 rfl rfl (by decide) (.cons fo24_1 sz22 rfl rfl (by decide) .nil)) (by kernel_rfl) ?_)   -- t6 ← build 24 [(0,const int i64 4),(1,tmp 5)]
  refine wOps_op rfl (op_alloc' rfl zm24 rfl rfl ?_)   -- t3 ← alloc 24
  refine wOps_op rfl (op_store' rfl rfl rfl rfl sz24 rfl rfl (Nat.le_of_ble_eq_true rfl) rfl ?_)   -- store 24 tmp 3 tmp 6
  refine wOps_nil ?_
  refine mwp_seq ?_
  refine mwp_region rfl ?_   -- region 2
  refine wOps_op rfl (op_load' rfl rfl rfl ta24 rfl ?_)   -- t7 ← load 24 tmp 3
  refine wOps_op rfl (op_load' rfl rfl rfl ta24 rfl ?_)   -- t8 ← load 24 tmp 1
  refine wOps_op rfl (op_buildSlice rfl Try.underlying22 el24 rfl rfl (by decide) (by decide) rfl rfl ?_)   -- t9 ← buildSlice 22 2 [(0,tmp 7),(1,tmp 8)]
  refine wOps_op rfl (op_build rfl Try.underlying24 zm24 (.cons fo24_0 sz3 rfl rfl (by decide) (.cons fo24_1 sz22 rfl rfl (by decide) .nil)) (by kernel_rfl) ?_)   -- t10 ← build 24 [(0,const int i64 5),(1,tmp 9)]
  refine wOps_op rfl (op_buildSlice rfl Try.underlying22 el24 rfl rfl (by decide) (by decide) rfl rfl ?_)   -- t11 ← buildSlice 22 1 [(0,tmp 10)]
  refine wOps_op rfl (op_build rfl Try.underlying24 zm24 (.cons fo24_0 sz3 rfl rfl (by decide) (.cons fo24_1 sz22 rfl rfl (by decide) .nil)) (by kernel_rfl) ?_)   -- t12 ← build 24 [(0,const int i64 8),(1,tmp 11)]
  refine wOps_op rfl (op_store' rfl rfl rfl rfl sz24 rfl rfl (Nat.le_of_ble_eq_true rfl) rfl ?_)   -- store 24 tmp 2 tmp 12
  refine wOps_nil ?_
  refine mwp_ret ?_
  exact ret_cell (.inr rfl) Try.results17 rfl rfl ta24 rfl (.agg (.cons (.refl _) (.cons (.lstE (.agg (.cons (.refl _) (.cons (.lstE (.agg (.cons (.refl _) (.cons (.lstE (.agg (.cons (.refl _) (.cons (.nil 2) .nil)) .nil) rfl) .nil)) (.same .nil)) rfl) .nil)) .nil) rfl) .nil))) (cl_encS _ (causeS (.mk k ins))) ⟨rfl, rfl⟩

noncomputable def levelF (s : Sch) : Int :=
  if isF 16 s = false then 0 else match s with
    | .mk k ins => if k = 6 then 2 else if k = 8 then (match ins with
      | [.mk 5 [_, y]] => if Sch.mk k ins = causeS y then 3 else 1
      | _ => 1) else 1
theorem is_cause {k : Int} {ins : List Sch} (h : isF 16 (.mk k ins) = true) (hk : k = 8) : ∃ k1 l1, ins = [.mk k1 l1] ∧ (k1 = 5 → ∃ a b, l1 = [a, b]) := by
  subst hk
  simp only [isF, Bool.and_eq_true] at h
  have h1 : ins.length = 1 := by have := h.1; simp [partsF] at this; omega
  match ins, h1 with
  | [.mk k1 l1], _ =>
    refine ⟨k1, l1, rfl, fun h5 => ?_⟩
    subst h5
    have h2 := h.2
    simp only [List.all_cons, isF, Bool.and_eq_true] at h2
    have h3 : l1.length = 2 := by have := h2.1.1; simp [partsF] at this; omega
    match l1, h3 with
    | [a, b], _ => exact ⟨a, b, rfl⟩


theorem Level_spec (s : Sch) (S : MS) : MCalls Try.prog 14 [encS s] S fun v σ' => v = .int .i64 (levelF s) ∧ σ' = S := by
  obtain ⟨k, ins⟩ := s
  cases his : isF 16 (.mk k ins) with
  | false =>
    refine mcalls_body Try.func14 rfl Try.ntmps14 (Nat.le_of_ble_eq_true rfl) ?_
    refine mwp_seq ?_
    refine mwp_region rfl ?_   -- region 0
    refine wOps_op rfl (op_box' rfl rfl rfl rfl ?_)   -- t1 ← box 24 tmp 0
    refine wOps_op rfl (op_assign rfl rfl ?_)   -- t2 ← assign const int i64 0
    refine wOps_nil ?_
    refine mwp_seq ?_
    refine mwp_block ?_   -- block 0
    refine mwp_seq ?_
    refine mwp_region rfl ?_   -- region 1
    refine wOps_op rfl (op_load' rfl rfl rfl ta24 rfl ?_)   -- t4 ← load 24 tmp 1
    refine wOps_op rfl (op_call rfl rfl rfl co8 ((Is_spec (.mk k ins) _).mono ?_))   -- t5 ← call ('rec', {'callee': ('app', 'value', [('app', 'func', [8])]),
    rintro _ _ ⟨rfl, rfl⟩
    rw [his]
    refine wOps_op rfl (op_not rfl rfl ?_)   -- t6 ← unOp not 4 tmp 5
    refine wOps_op rfl (op_assign rfl rfl ?_)   -- t3 ← assign tmp 6
    refine wOps_nil ?_
    refine mwp_cond_t rfl (rfl) ?_   -- if t3
    refine mwp_seq ?_
    refine mwp_region rfl ?_   -- region 2
    refine wOps_op rfl (op_assign rfl rfl ?_)   -- t2 ← assign const int i64 0
    refine wOps_nil ?_
    refine mwp_ret ?_
    exact ret_tmp (.inr rfl) Try.results14 rfl (.refl _) (.int _ _) ⟨by simp [levelF, his], rfl⟩
  | true =>
  by_cases h6 : k = 6
  · subst h6
    refine mcalls_body Try.func14 rfl Try.ntmps14 (Nat.le_of_ble_eq_true rfl) ?_
    refine mwp_seq ?_
    refine mwp_region rfl ?_   -- region 0
    refine wOps_op rfl (op_box' rfl rfl rfl rfl ?_)   -- t1 ← box 24 tmp 0
    refine wOps_op rfl (op_assign rfl rfl ?_)   -- t2 ← assign const int i64 0
    refine wOps_nil ?_
    refine mwp_seq ?_
    refine mwp_block ?_   -- block 0
    refine mwp_seq ?_
    refine mwp_region rfl ?_   -- region 1
    refine wOps_op rfl (op_load' rfl rfl rfl ta24 rfl ?_)   -- t4 ← load 24 tmp 1
    refine wOps_op rfl (op_call rfl rfl rfl co8 ((Is_spec (.mk 6 ins) _).mono ?_))   -- t5 ← call ('rec', {'callee': ('app', 'value', [('app', 'func', [8])]),
    rintro _ _ ⟨rfl, rfl⟩
    rw [his]
    refine wOps_op rfl (op_not rfl rfl ?_)   -- t6 ← unOp not 4 tmp 5
    refine wOps_op rfl (op_assign rfl rfl ?_)   -- t3 ← assign tmp 6
    refine wOps_nil ?_
    refine mwp_cond_f rfl (rfl) ?_   -- if t3
    refine mwp_seq ?_
    refine mwp_region rfl ?_   -- region 3
    refine wOps_op rfl (op_fieldAddr_ref rfl rfl fo24_0 ?_)   -- t8 ← fieldAddr 24 tmp 1 0
    refine wOps_op rfl (op_load' rfl rfl rfl ta3 rfl ?_)   -- t9 ← load 3 tmp 8
    refine wOps_op rfl (op_cmp rfl rfl rfl rfl ?_)   -- t10 ← binOp eql 3 tmp 9 const int i64 6 3
    refine wOps_op rfl (op_assign rfl rfl ?_)   -- t7 ← assign tmp 10
    refine wOps_nil ?_
    refine mwp_cond_t rfl (rfl) ?_   -- if t7
    refine mwp_seq ?_
    refine mwp_region rfl ?_   -- region 4
    refine wOps_op rfl (op_assign rfl rfl ?_)   -- t2 ← assign const int i64 2
    refine wOps_nil ?_
    refine mwp_ret ?_
    exact ret_tmp (.inr rfl) Try.results14 rfl (.refl _) (.int _ _) ⟨by simp [levelF, his], rfl⟩
  have h6b : (k == 6) = false := by simpa using h6
  by_cases h8 : k = 8
  · obtain ⟨k1, l1, rfl, h5⟩ := is_cause his h8
    subst h8
    by_cases hk1 : k1 = 5
    · obtain ⟨⟨ka, la⟩, ⟨kb, lb⟩, rfl⟩ := h5 hk1
      subst hk1
      refine mcalls_body Try.func14 rfl Try.ntmps14 (Nat.le_of_ble_eq_true rfl) ?_
      refine mwp_seq ?_
      refine mwp_region rfl ?_   -- region 0
      refine wOps_op rfl (op_box' rfl rfl rfl rfl ?_)   -- t1 ← box 24 tmp 0
      refine wOps_op rfl (op_assign rfl rfl ?_)   -- t2 ← assign const int i64 0
      refine wOps_nil ?_
      refine mwp_seq ?_
      refine mwp_block ?_   -- block 0
      refine mwp_seq ?_
      refine mwp_region rfl ?_   -- region 1
      refine wOps_op rfl (op_load' rfl rfl rfl ta24 rfl ?_)   -- t4 ← load 24 tmp 1
      refine wOps_op rfl (op_call rfl rfl rfl co8 ((Is_spec (.mk 8 [.mk 5 [.mk ka la, .mk kb lb]]) _).mono ?_))   -- t5 ← call ('rec', {'callee': ('app', 'value', [('app', 'func', [8])]),
      rintro _ _ ⟨rfl, rfl⟩
      rw [his]
      refine wOps_op rfl (op_not rfl rfl ?_)   -- t6 ← unOp not 4 tmp 5
      refine wOps_op rfl (op_assign rfl rfl ?_)   -- t3 ← assign tmp 6
      refine wOps_nil ?_
      refine mwp_cond_f rfl (rfl) ?_   -- if t3
      refine mwp_seq ?_
      refine mwp_region rfl ?_   -- region 3
      refine wOps_op rfl (op_fieldAddr_ref rfl rfl fo24_0 ?_)   -- t8 ← fieldAddr 24 tmp 1 0
      refine wOps_op rfl (op_load' rfl rfl rfl ta3 rfl ?_)   -- t9 ← load 3 tmp 8
      refine wOps_op rfl (op_cmp rfl rfl rfl rfl ?_)   -- t10 ← binOp eql 3 tmp 9 const int i64 6 3
      refine wOps_op rfl (op_assign rfl rfl ?_)   -- t7 ← assign tmp 10
      refine wOps_nil ?_
      refine mwp_cond_f rfl (rfl) ?_   -- if t7
      refine mwp_seq ?_
      refine mwp_draw [] [_] mo (by decide) rfl rfl rfl rfl ?_   -- region 5
      refine dOps_op rfl rfl (.cons (op_fieldAddr_ref rfl rfl fo24_0 ⟨rfl, rfl⟩) .nil) ?_   -- t12 ← fieldAddr 24 tmp 1 0
      refine dOps_op rfl rfl (.cons (op_load' rfl rfl rfl ta3 rfl ⟨rfl, rfl⟩) .nil) ?_   -- t13 ← load 3 tmp 12
      refine dOps_op rfl rfl (.cons (op_cmp rfl rfl rfl rfl ⟨rfl, rfl⟩) .nil) ?_   -- t14 ← binOp eql 3 tmp 13 const int i64 8 3
      refine dOps_op rfl rfl (.cons (op_move rfl rfl ⟨rfl, rfl⟩) .nil) ?_   -- t15 ← move tmp 14
      refine dOps_op rfl rfl (.cons (op_fieldAddr_ref rfl rfl fo24_1 ⟨rfl, rfl⟩) .nil) ?_   -- t16 ← fieldAddr 24 tmp 1 1  GUARD
      refine dOps_op rfl rfl (.cons (op_load' rfl rfl rfl ta22 rfl ⟨rfl, rfl⟩) .nil) ?_   -- t17 ← load 22 tmp 16  GUARD
      refine dOps_op rfl rfl (.cons (op_indexAddr rfl Try.underlying22 sz24 (by decide) rfl rfl rfl rfl ⟨rfl, rfl⟩) .nil) ?_   -- t18 ← indexAddr 22 tmp 17 const int i64 0  GUARD
      refine dOps_op rfl rfl (.cons (op_fieldAddr_sptr rfl rfl fo24_0 ⟨rfl, rfl⟩) .nil) ?_   -- t19 ← fieldAddr 24 tmp 18 0  GUARD
      refine dOps_op rfl rfl (.cons (op_load_sptr rfl rfl ta3 rfl ⟨rfl, rfl⟩) .nil) ?_   -- t20 ← load 3 tmp 19  GUARD
      refine dOps_op rfl rfl (.cons (op_cmp rfl rfl rfl rfl ⟨rfl, rfl⟩) .nil) ?_   -- t21 ← binOp eql 3 tmp 20 const int i64 5 3  GUARD
      refine dOps_op rfl rfl (.cons (op_pick rfl rfl rfl ⟨rfl, rfl⟩) .nil) ?_   -- t22 ← pick tmp 15 tmp 21 const bool false
      refine dOps_op rfl rfl (.cons (op_move rfl rfl ⟨rfl, rfl⟩) .nil) ?_   -- t23 ← move tmp 22
      refine dOps_op rfl rfl (.cons (op_load' rfl rfl rfl ta24 rfl ⟨rfl, rfl⟩) .nil) ?_   -- t24 ← load 24 tmp 1  GUARD
      refine dOps_op rfl rfl (.cons (op_fieldAddr_ref rfl rfl fo24_1 ⟨rfl, rfl⟩) .nil) ?_   -- t25 ← fieldAddr 24 tmp 1 1  GUARD
      refine dOps_op rfl rfl (.cons (op_load' rfl rfl rfl ta22 rfl ⟨rfl, rfl⟩) .nil) ?_   -- t26 ← load 22 tmp 25  GUARD
      refine dOps_op rfl rfl (.cons (op_indexAddr rfl Try.underlying22 sz24 (by decide) rfl rfl rfl rfl ⟨rfl, rfl⟩) .nil) ?_   -- t27 ← indexAddr 22 tmp 26 const int i64 0  GUARD
      refine dOps_op rfl rfl (.cons (op_fieldAddr_sptr rfl rfl fo24_1 ⟨rfl, rfl⟩) .nil) ?_   -- t28 ← fieldAddr 24 tmp 27 1  GUARD
      refine dOps_op rfl rfl (.cons (op_load_sptr rfl rfl ta22 rfl ⟨rfl, rfl⟩) .nil) ?_   -- t29 ← load 22 tmp 28  GUARD
      refine dOps_op rfl rfl (.cons (op_indexAddr rfl Try.underlying22 sz24 (by decide) rfl rfl rfl rfl ⟨rfl, rfl⟩) .nil) ?_   -- t30 ← indexAddr 22 tmp 29 const int i64 1  GUARD
      refine dOps_op rfl rfl (.cons (op_load_sptr rfl rfl ta24 rfl ⟨rfl, rfl⟩) .nil) ?_   -- t31 ← load 24 tmp 30  GUARD
      refine dOps_op rfl rfl (.cons (op_call rfl rfl rfl co16 (Cause_spec (.mk kb lb) _)) .nil) ?_   -- t32 ← call ('rec', {'callee': ('app', 'value', [('app', 'func', [16])])  GUARD
      refine dOps_op rfl rfl (.cons (op_call rfl rfl rfl co12 (Same_spec _ (.mk 8 [.mk 5 [.mk ka la, .mk kb lb]]) (causeS (.mk kb lb)) (Nat.le_refl _) _)) .nil) ?_   -- t33 ← call ('rec', {'callee': ('app', 'value', [('app', 'func', [12])])  GUARD
      refine dOps_op rfl rfl (.cons (op_pick rfl rfl rfl ⟨rfl, rfl⟩) .nil) ?_   -- t34 ← pick tmp 23 tmp 33 const bool false
      refine dOps_op rfl rfl (.cons (op_assign rfl rfl ⟨rfl, rfl⟩) .nil) ?_   -- t11 ← assign tmp 34
      refine dOps_nil ?_
      refine mwp_cond_split rfl (fun h11 => ?_) (fun h11 => ?_)   -- if t11
      · -- yes
        refine mwp_seq ?_
        refine mwp_region rfl ?_   -- region 6
        refine wOps_op rfl (op_assign rfl rfl ?_)   -- t2 ← assign const int i64 3
        refine wOps_nil ?_
        refine mwp_ret ?_
        exact ret_tmp (.inr rfl) Try.results14 rfl (.refl _) (.int _ _) ⟨by simp only [decide_eq_true_eq] at h11; simp [levelF, his, ← h11], rfl⟩
      · -- no
        refine mwp_skip ?_
        refine mwp_seq ?_
        refine mwp_region rfl ?_   -- region 7
        refine wOps_op rfl (op_assign rfl rfl ?_)   -- t2 ← assign const int i64 1
        refine wOps_nil ?_
        refine mwp_ret ?_
        exact ret_tmp (.inr rfl) Try.results14 rfl (.refl _) (.int _ _) ⟨by simp only [decide_eq_false_iff_not] at h11; simp [levelF, his, h11], rfl⟩
    · have hk1b : (k1 == 5) = false := by simpa using hk1
      refine mcalls_body Try.func14 rfl Try.ntmps14 (Nat.le_of_ble_eq_true rfl) ?_
      refine mwp_seq ?_
      refine mwp_region rfl ?_   -- region 0
      refine wOps_op rfl (op_box' rfl rfl rfl rfl ?_)   -- t1 ← box 24 tmp 0
      refine wOps_op rfl (op_assign rfl rfl ?_)   -- t2 ← assign const int i64 0
      refine wOps_nil ?_
      refine mwp_seq ?_
      refine mwp_block ?_   -- block 0
      refine mwp_seq ?_
      refine mwp_region rfl ?_   -- region 1
      refine wOps_op rfl (op_load' rfl rfl rfl ta24 rfl ?_)   -- t4 ← load 24 tmp 1
      refine wOps_op rfl (op_call rfl rfl rfl co8 ((Is_spec (.mk 8 [.mk k1 l1]) _).mono ?_))   -- t5 ← call ('rec', {'callee': ('app', 'value', [('app', 'func', [8])]),
      rintro _ _ ⟨rfl, rfl⟩
      rw [his]
      refine wOps_op rfl (op_not rfl rfl ?_)   -- t6 ← unOp not 4 tmp 5
      refine wOps_op rfl (op_assign rfl rfl ?_)   -- t3 ← assign tmp 6
      refine wOps_nil ?_
      refine mwp_cond_f rfl (rfl) ?_   -- if t3
      refine mwp_seq ?_
      refine mwp_region rfl ?_   -- region 3
      refine wOps_op rfl (op_fieldAddr_ref rfl rfl fo24_0 ?_)   -- t8 ← fieldAddr 24 tmp 1 0
      refine wOps_op rfl (op_load' rfl rfl rfl ta3 rfl ?_)   -- t9 ← load 3 tmp 8
      refine wOps_op rfl (op_cmp rfl rfl rfl rfl ?_)   -- t10 ← binOp eql 3 tmp 9 const int i64 6 3
      refine wOps_op rfl (op_assign rfl rfl ?_)   -- t7 ← assign tmp 10
      refine wOps_nil ?_
      refine mwp_cond_f rfl (rfl) ?_   -- if t7
      refine mwp_seq ?_
      refine mwp_draw [] [_] mo (by decide) rfl rfl rfl rfl ?_   -- region 5
      refine dOps_op rfl rfl (.cons (op_fieldAddr_ref rfl rfl fo24_0 ⟨rfl, rfl⟩) .nil) ?_   -- t12 ← fieldAddr 24 tmp 1 0
      refine dOps_op rfl rfl (.cons (op_load' rfl rfl rfl ta3 rfl ⟨rfl, rfl⟩) .nil) ?_   -- t13 ← load 3 tmp 12
      refine dOps_op rfl rfl (.cons (op_cmp rfl rfl rfl rfl ⟨rfl, rfl⟩) .nil) ?_   -- t14 ← binOp eql 3 tmp 13 const int i64 8 3
      refine dOps_op rfl rfl (.cons (op_move rfl rfl ⟨rfl, rfl⟩) .nil) ?_   -- t15 ← move tmp 14
      refine dOps_op rfl rfl (.cons (op_fieldAddr_ref rfl rfl fo24_1 ⟨rfl, rfl⟩) .nil) ?_   -- t16 ← fieldAddr 24 tmp 1 1  GUARD
      refine dOps_op rfl rfl (.cons (op_load' rfl rfl rfl ta22 rfl ⟨rfl, rfl⟩) .nil) ?_   -- t17 ← load 22 tmp 16  GUARD
      refine dOps_op rfl rfl (.cons (op_indexAddr rfl Try.underlying22 sz24 (by decide) rfl rfl rfl rfl ⟨rfl, rfl⟩) .nil) ?_   -- t18 ← indexAddr 22 tmp 17 const int i64 0  GUARD
      refine dOps_op rfl rfl (.cons (op_fieldAddr_sptr rfl rfl fo24_0 ⟨rfl, rfl⟩) .nil) ?_   -- t19 ← fieldAddr 24 tmp 18 0  GUARD
      refine dOps_op rfl rfl (.cons (op_load_sptr rfl rfl ta3 rfl ⟨rfl, rfl⟩) .nil) ?_   -- t20 ← load 3 tmp 19  GUARD
      refine dOps_op rfl rfl (.cons (op_cmp rfl rfl rfl rfl ⟨rfl, rfl⟩) .nil) ?_   -- t21 ← binOp eql 3 tmp 20 const int i64 5 3  GUARD
      rw [hk1b]
      refine dOps_op rfl rfl (.cons (op_pick rfl rfl rfl ⟨rfl, rfl⟩) .nil) ?_   -- t22 ← pick tmp 15 tmp 21 const bool false
      refine dOps_op rfl rfl (.cons (op_move rfl rfl ⟨rfl, rfl⟩) .nil) ?_   -- t23 ← move tmp 22
      refine dOps_skip rfl rfl ?_
      refine dOps_skip rfl rfl ?_
      refine dOps_skip rfl rfl ?_
      refine dOps_skip rfl rfl ?_
      refine dOps_skip rfl rfl ?_
      refine dOps_skip rfl rfl ?_
      refine dOps_skip rfl rfl ?_
      refine dOps_skip rfl rfl ?_
      refine dOps_skip rfl rfl ?_
      refine dOps_skip rfl rfl ?_
      refine dOps_op rfl rfl (.cons (op_pick rfl rfl rfl ⟨rfl, rfl⟩) .nil) ?_   -- t34 ← pick tmp 23 tmp 33 const bool false
      refine dOps_op rfl rfl (.cons (op_assign rfl rfl ⟨rfl, rfl⟩) .nil) ?_   -- t11 ← assign tmp 34
      refine dOps_nil ?_
      refine mwp_cond_f rfl (rfl) ?_   -- if t11
      refine mwp_skip ?_
      refine mwp_seq ?_
      refine mwp_region rfl ?_   -- region 7
      refine wOps_op rfl (op_assign rfl rfl ?_)   -- t2 ← assign const int i64 1
      refine wOps_nil ?_
      refine mwp_ret ?_
      exact ret_tmp (.inr rfl) Try.results14 rfl (.refl _) (.int _ _) ⟨by simp only [levelF, his]; simp; split <;> simp_all, rfl⟩
  · have h8b : (k == 8) = false := by simpa using h8
    refine mcalls_body Try.func14 rfl Try.ntmps14 (Nat.le_of_ble_eq_true rfl) ?_
    refine mwp_seq ?_
    refine mwp_region rfl ?_   -- region 0
    refine wOps_op rfl (op_box' rfl rfl rfl rfl ?_)   -- t1 ← box 24 tmp 0
    refine wOps_op rfl (op_assign rfl rfl ?_)   -- t2 ← assign const int i64 0
    refine wOps_nil ?_
    refine mwp_seq ?_
    refine mwp_block ?_   -- block 0
    refine mwp_seq ?_
    refine mwp_region rfl ?_   -- region 1
    refine wOps_op rfl (op_load' rfl rfl rfl ta24 rfl ?_)   -- t4 ← load 24 tmp 1
    refine wOps_op rfl (op_call rfl rfl rfl co8 ((Is_spec (.mk k ins) _).mono ?_))   -- t5 ← call ('rec', {'callee': ('app', 'value', [('app', 'func', [8])]),
    rintro _ _ ⟨rfl, rfl⟩
    rw [his]
    refine wOps_op rfl (op_not rfl rfl ?_)   -- t6 ← unOp not 4 tmp 5
    refine wOps_op rfl (op_assign rfl rfl ?_)   -- t3 ← assign tmp 6
    refine wOps_nil ?_
    refine mwp_cond_f rfl (rfl) ?_   -- if t3
    refine mwp_seq ?_
    refine mwp_region rfl ?_   -- region 3
    refine wOps_op rfl (op_fieldAddr_ref rfl rfl fo24_0 ?_)   -- t8 ← fieldAddr 24 tmp 1 0
    refine wOps_op rfl (op_load' rfl rfl rfl ta3 rfl ?_)   -- t9 ← load 3 tmp 8
    refine wOps_op rfl (op_cmp rfl rfl rfl rfl ?_)   -- t10 ← binOp eql 3 tmp 9 const int i64 6 3
    rw [h6b]
    refine wOps_op rfl (op_assign rfl rfl ?_)   -- t7 ← assign tmp 10
    refine wOps_nil ?_
    refine mwp_cond_f rfl (rfl) ?_   -- if t7
    refine mwp_seq ?_
    refine mwp_draw [] [_] mo (by decide) rfl rfl rfl rfl ?_   -- region 5
    refine dOps_op rfl rfl (.cons (op_fieldAddr_ref rfl rfl fo24_0 ⟨rfl, rfl⟩) .nil) ?_   -- t12 ← fieldAddr 24 tmp 1 0
    refine dOps_op rfl rfl (.cons (op_load' rfl rfl rfl ta3 rfl ⟨rfl, rfl⟩) .nil) ?_   -- t13 ← load 3 tmp 12
    refine dOps_op rfl rfl (.cons (op_cmp rfl rfl rfl rfl ⟨rfl, rfl⟩) .nil) ?_   -- t14 ← binOp eql 3 tmp 13 const int i64 8 3
    rw [h8b]
    refine dOps_op rfl rfl (.cons (op_move rfl rfl ⟨rfl, rfl⟩) .nil) ?_   -- t15 ← move tmp 14
    refine dOps_skip rfl rfl ?_
    refine dOps_skip rfl rfl ?_
    refine dOps_skip rfl rfl ?_
    refine dOps_skip rfl rfl ?_
    refine dOps_skip rfl rfl ?_
    refine dOps_skip rfl rfl ?_
    refine dOps_op rfl rfl (.cons (op_pick rfl rfl rfl ⟨rfl, rfl⟩) .nil) ?_   -- t22 ← pick tmp 15 tmp 21 const bool false
    refine dOps_op rfl rfl (.cons (op_move rfl rfl ⟨rfl, rfl⟩) .nil) ?_   -- t23 ← move tmp 22
    refine dOps_skip rfl rfl ?_
    refine dOps_skip rfl rfl ?_
    refine dOps_skip rfl rfl ?_
    refine dOps_skip rfl rfl ?_
    refine dOps_skip rfl rfl ?_
    refine dOps_skip rfl rfl ?_
    refine dOps_skip rfl rfl ?_
    refine dOps_skip rfl rfl ?_
    refine dOps_skip rfl rfl ?_
    refine dOps_skip rfl rfl ?_
    refine dOps_op rfl rfl (.cons (op_pick rfl rfl rfl ⟨rfl, rfl⟩) .nil) ?_   -- t34 ← pick tmp 23 tmp 33 const bool false
    refine dOps_op rfl rfl (.cons (op_assign rfl rfl ⟨rfl, rfl⟩) .nil) ?_   -- t11 ← assign tmp 34
    refine dOps_nil ?_
    refine mwp_cond_f rfl (rfl) ?_   -- if t11
    refine mwp_skip ?_
    refine mwp_seq ?_
    refine mwp_region rfl ?_   -- region 7
    refine wOps_op rfl (op_assign rfl rfl ?_)   -- t2 ← assign const int i64 1
    refine wOps_nil ?_
    refine mwp_ret ?_
    exact ret_tmp (.inr rfl) Try.results14 rfl (.refl _) (.int _ _) ⟨by simp [levelF, his, h6, h8], rfl⟩

theorem rLevel_spec (s : Sch) (S : MS) : MCalls Try.prog 15 [encS s] S fun v σ' => v = .int .i64 (levelF s) ∧ σ' = S := by
  obtain ⟨k, ins⟩ := s
  cases his : isF 16 (.mk k ins) with
  | false =>
    refine mcalls_body Try.func15 rfl Try.ntmps15 (Nat.le_of_ble_eq_true rfl) ?_
    refine mwp_seq ?_
    refine mwp_region rfl ?_   -- region 0
    refine wOps_op rfl (op_box' rfl rfl rfl rfl ?_)   -- t1 ← box 24 tmp 0
    refine wOps_op rfl (op_assign rfl rfl ?_)   -- t2 ← assign const int i64 0
    refine wOps_nil ?_
    refine mwp_seq ?_
    refine mwp_block ?_   -- block 0
    refine mwp_seq ?_
    refine mwp_region rfl ?_   -- region 1
    refine wOps_op rfl (op_load' rfl rfl rfl ta24 rfl ?_)   -- t4 ← load 24 tmp 1
    refine wOps_op rfl (op_call rfl rfl rfl co9 ((rIsSchema_spec (.mk k ins) _).mono ?_))   -- t5 ← call ('rec', {'callee': ('app', 'value', [('app', 'func', [9])]),
    rintro _ _ ⟨rfl, rfl⟩
    rw [his]
    refine wOps_op rfl (op_not rfl rfl ?_)   -- t6 ← unOp not 4 tmp 5
    refine wOps_op rfl (op_assign rfl rfl ?_)   -- t3 ← assign tmp 6
    refine wOps_nil ?_
    refine mwp_cond_t rfl (rfl) ?_   -- if t3
    refine mwp_seq ?_
    refine mwp_region rfl ?_   -- region 2
    refine wOps_op rfl (op_assign rfl rfl ?_)   -- t2 ← assign const int i64 0
    refine wOps_nil ?_
    refine mwp_ret ?_
    exact ret_tmp (.inr rfl) Try.results15 rfl (.refl _) (.int _ _) ⟨by simp [levelF, his], rfl⟩
  | true =>
  by_cases h6 : k = 6
  · subst h6
    refine mcalls_body Try.func15 rfl Try.ntmps15 (Nat.le_of_ble_eq_true rfl) ?_
    refine mwp_seq ?_
    refine mwp_region rfl ?_   -- region 0
    refine wOps_op rfl (op_box' rfl rfl rfl rfl ?_)   -- t1 ← box 24 tmp 0
    refine wOps_op rfl (op_assign rfl rfl ?_)   -- t2 ← assign const int i64 0
    refine wOps_nil ?_
    refine mwp_seq ?_
    refine mwp_block ?_   -- block 0
    refine mwp_seq ?_
    refine mwp_region rfl ?_   -- region 1
    refine wOps_op rfl (op_load' rfl rfl rfl ta24 rfl ?_)   -- t4 ← load 24 tmp 1
    refine wOps_op rfl (op_call rfl rfl rfl co9 ((rIsSchema_spec (.mk 6 ins) _).mono ?_))   -- t5 ← call ('rec', {'callee': ('app', 'value', [('app', 'func', [9])]),
    rintro _ _ ⟨rfl, rfl⟩
    rw [his]
    refine wOps_op rfl (op_not rfl rfl ?_)   -- t6 ← unOp not 4 tmp 5
    refine wOps_op rfl (op_assign rfl rfl ?_)   -- t3 ← assign tmp 6
    refine wOps_nil ?_
    refine mwp_cond_f rfl (rfl) ?_   -- if t3
    refine mwp_seq ?_
    refine mwp_region rfl ?_   -- region 3
    refine wOps_op rfl (op_fieldAddr_ref rfl rfl fo24_0 ?_)   -- t8 ← fieldAddr 24 tmp 1 0
    refine wOps_op rfl (op_load' rfl rfl rfl ta3 rfl ?_)   -- t9 ← load 3 tmp 8
    refine wOps_op rfl (op_cmp rfl rfl rfl rfl ?_)   -- t10 ← binOp eql 3 tmp 9 const int i64 6 3
    refine wOps_op rfl (op_assign rfl rfl ?_)   -- t7 ← assign tmp 10
    refine wOps_nil ?_
    refine mwp_cond_t rfl (rfl) ?_   -- if t7
    refine mwp_seq ?_
    refine mwp_region rfl ?_   -- region 4
    refine wOps_op rfl (op_assign rfl rfl ?_)   -- t2 ← assign const int i64 2
    refine wOps_nil ?_
    refine mwp_ret ?_
    exact ret_tmp (.inr rfl) Try.results15 rfl (.refl _) (.int _ _) ⟨by simp [levelF, his], rfl⟩
  have h6b : (k == 6) = false := by simpa using h6
  by_cases h8 : k = 8
  · obtain ⟨k1, l1, rfl, h5⟩ := is_cause his h8
    subst h8
    by_cases hk1 : k1 = 5
    · obtain ⟨⟨ka, la⟩, ⟨kb, lb⟩, rfl⟩ := h5 hk1
      subst hk1
      refine mcalls_body Try.func15 rfl Try.ntmps15 (Nat.le_of_ble_eq_true rfl) ?_
      refine mwp_seq ?_
      refine mwp_region rfl ?_   -- region 0
      refine wOps_op rfl (op_box' rfl rfl rfl rfl ?_)   -- t1 ← box 24 tmp 0
      refine wOps_op rfl (op_assign rfl rfl ?_)   -- t2 ← assign const int i64 0
      refine wOps_nil ?_
      refine mwp_seq ?_
      refine mwp_block ?_   -- block 0
      refine mwp_seq ?_
      refine mwp_region rfl ?_   -- region 1
      refine wOps_op rfl (op_load' rfl rfl rfl ta24 rfl ?_)   -- t4 ← load 24 tmp 1
      refine wOps_op rfl (op_call rfl rfl rfl co9 ((rIsSchema_spec (.mk 8 [.mk 5 [.mk ka la, .mk kb lb]]) _).mono ?_))   -- t5 ← call ('rec', {'callee': ('app', 'value', [('app', 'func', [9])]),
      rintro _ _ ⟨rfl, rfl⟩
      rw [his]
      refine wOps_op rfl (op_not rfl rfl ?_)   -- t6 ← unOp not 4 tmp 5
      refine wOps_op rfl (op_assign rfl rfl ?_)   -- t3 ← assign tmp 6
      refine wOps_nil ?_
      refine mwp_cond_f rfl (rfl) ?_   -- if t3
      refine mwp_seq ?_
      refine mwp_region rfl ?_   -- region 3
      refine wOps_op rfl (op_fieldAddr_ref rfl rfl fo24_0 ?_)   -- t8 ← fieldAddr 24 tmp 1 0
      refine wOps_op rfl (op_load' rfl rfl rfl ta3 rfl ?_)   -- t9 ← load 3 tmp 8
      refine wOps_op rfl (op_cmp rfl rfl rfl rfl ?_)   -- t10 ← binOp eql 3 tmp 9 const int i64 6 3
      refine wOps_op rfl (op_assign rfl rfl ?_)   -- t7 ← assign tmp 10
      refine wOps_nil ?_
      refine mwp_cond_f rfl (rfl) ?_   -- if t7
      refine mwp_seq ?_
      refine mwp_draw [] [_] mo (by decide) rfl rfl rfl rfl ?_   -- region 5
      refine dOps_op rfl rfl (.cons (op_fieldAddr_ref rfl rfl fo24_0 ⟨rfl, rfl⟩) .nil) ?_   -- t12 ← fieldAddr 24 tmp 1 0
      refine dOps_op rfl rfl (.cons (op_load' rfl rfl rfl ta3 rfl ⟨rfl, rfl⟩) .nil) ?_   -- t13 ← load 3 tmp 12
      refine dOps_op rfl rfl (.cons (op_cmp rfl rfl rfl rfl ⟨rfl, rfl⟩) .nil) ?_   -- t14 ← binOp eql 3 tmp 13 const int i64 8 3
      refine dOps_op rfl rfl (.cons (op_move rfl rfl ⟨rfl, rfl⟩) .nil) ?_   -- t15 ← move tmp 14
      refine dOps_op rfl rfl (.cons (op_fieldAddr_ref rfl rfl fo24_1 ⟨rfl, rfl⟩) .nil) ?_   -- t16 ← fieldAddr 24 tmp 1 1  GUARD
      refine dOps_op rfl rfl (.cons (op_load' rfl rfl rfl ta22 rfl ⟨rfl, rfl⟩) .nil) ?_   -- t17 ← load 22 tmp 16  GUARD
      refine dOps_op rfl rfl (.cons (op_indexAddr rfl Try.underlying22 sz24 (by decide) rfl rfl rfl rfl ⟨rfl, rfl⟩) .nil) ?_   -- t18 ← indexAddr 22 tmp 17 const int i64 0  GUARD
      refine dOps_op rfl rfl (.cons (op_fieldAddr_sptr rfl rfl fo24_0 ⟨rfl, rfl⟩) .nil) ?_   -- t19 ← fieldAddr 24 tmp 18 0  GUARD
      refine dOps_op rfl rfl (.cons (op_load_sptr rfl rfl ta3 rfl ⟨rfl, rfl⟩) .nil) ?_   -- t20 ← load 3 tmp 19  GUARD
      refine dOps_op rfl rfl (.cons (op_cmp rfl rfl rfl rfl ⟨rfl, rfl⟩) .nil) ?_   -- t21 ← binOp eql 3 tmp 20 const int i64 5 3  GUARD
      refine dOps_op rfl rfl (.cons (op_pick rfl rfl rfl ⟨rfl, rfl⟩) .nil) ?_   -- t22 ← pick tmp 15 tmp 21 const bool false
      refine dOps_op rfl rfl (.cons (op_move rfl rfl ⟨rfl, rfl⟩) .nil) ?_   -- t23 ← move tmp 22
      refine dOps_op rfl rfl (.cons (op_load' rfl rfl rfl ta24 rfl ⟨rfl, rfl⟩) .nil) ?_   -- t24 ← load 24 tmp 1  GUARD
      refine dOps_op rfl rfl (.cons (op_fieldAddr_ref rfl rfl fo24_1 ⟨rfl, rfl⟩) .nil) ?_   -- t25 ← fieldAddr 24 tmp 1 1  GUARD
      refine dOps_op rfl rfl (.cons (op_load' rfl rfl rfl ta22 rfl ⟨rfl, rfl⟩) .nil) ?_   -- t26 ← load 22 tmp 25  GUARD
      refine dOps_op rfl rfl (.cons (op_indexAddr rfl Try.underlying22 sz24 (by decide) rfl rfl rfl rfl ⟨rfl, rfl⟩) .nil) ?_   -- t27 ← indexAddr 22 tmp 26 const int i64 0  GUARD
      refine dOps_op rfl rfl (.cons (op_fieldAddr_sptr rfl rfl fo24_1 ⟨rfl, rfl⟩) .nil) ?_   -- t28 ← fieldAddr 24 tmp 27 1  GUARD
      refine dOps_op rfl rfl (.cons (op_load_sptr rfl rfl ta22 rfl ⟨rfl, rfl⟩) .nil) ?_   -- t29 ← load 22 tmp 28  GUARD
      refine dOps_op rfl rfl (.cons (op_indexAddr rfl Try.underlying22 sz24 (by decide) rfl rfl rfl rfl ⟨rfl, rfl⟩) .nil) ?_   -- t30 ← indexAddr 22 tmp 29 const int i64 1  GUARD
      refine dOps_op rfl rfl (.cons (op_load_sptr rfl rfl ta24 rfl ⟨rfl, rfl⟩) .nil) ?_   -- t31 ← load 24 tmp 30  GUARD
      refine dOps_op rfl rfl (.cons (op_call rfl rfl rfl co17 (rCause_spec (.mk kb lb) _)) .nil) ?_   -- t32 ← call ('rec', {'callee': ('app', 'value', [('app', 'func', [17])])  GUARD
      refine dOps_op rfl rfl (.cons (op_call rfl rfl rfl co13 (rSame_spec _ (.mk 8 [.mk 5 [.mk ka la, .mk kb lb]]) (causeS (.mk kb lb)) (Nat.le_refl _) _)) .nil) ?_   -- t33 ← call ('rec', {'callee': ('app', 'value', [('app', 'func', [13])])  GUARD
      refine dOps_op rfl rfl (.cons (op_pick rfl rfl rfl ⟨rfl, rfl⟩) .nil) ?_   -- t34 ← pick tmp 23 tmp 33 const bool false
      refine dOps_op rfl rfl (.cons (op_assign rfl rfl ⟨rfl, rfl⟩) .nil) ?_   -- t11 ← assign tmp 34
      refine dOps_nil ?_
      refine mwp_cond_split rfl (fun h11 => ?_) (fun h11 => ?_)   -- if t11
      · -- yes
        refine mwp_seq ?_
        refine mwp_region rfl ?_   -- region 6
        refine wOps_op rfl (op_assign rfl rfl ?_)   -- t2 ← assign const int i64 3
        refine wOps_nil ?_
        refine mwp_ret ?_
        exact ret_tmp (.inr rfl) Try.results15 rfl (.refl _) (.int _ _) ⟨by simp only [decide_eq_true_eq] at h11; simp [levelF, his, ← h11], rfl⟩
      · -- no
        refine mwp_skip ?_
        refine mwp_seq ?_
        refine mwp_region rfl ?_   -- region 7
        refine wOps_op rfl (op_assign rfl rfl ?_)   -- t2 ← assign const int i64 1
        refine wOps_nil ?_
        refine mwp_ret ?_
        exact ret_tmp (.inr rfl) Try.results15 rfl (.refl _) (.int _ _) ⟨by simp only [decide_eq_false_iff_not] at h11; simp [levelF, his, h11], rfl⟩
    · have hk1b : (k1 == 5) = false := by simpa using hk1
      refine mcalls_body Try.func15 rfl Try.ntmps15 (Nat.le_of_ble_eq_true rfl) ?_
      refine mwp_seq ?_
      refine mwp_region rfl ?_   -- region 0
      refine wOps_op rfl (op_box' rfl rfl rfl rfl ?_)   -- t1 ← box 24 tmp 0
      refine wOps_op rfl (op_assign rfl rfl ?_)   -- t2 ← assign const int i64 0
      refine wOps_nil ?_
      refine mwp_seq ?_
      refine mwp_block ?_   -- block 0
      refine mwp_seq ?_
      refine mwp_region rfl ?_   -- region 1
      refine wOps_op rfl (op_load' rfl rfl rfl ta24 rfl ?_)   -- t4 ← load 24 tmp 1
      refine wOps_op rfl (op_call rfl rfl rfl co9 ((rIsSchema_spec (.mk 8 [.mk k1 l1]) _).mono ?_))   -- t5 ← call ('rec', {'callee': ('app', 'value', [('app', 'func', [9])]),
      rintro _ _ ⟨rfl, rfl⟩
      rw [his]
      refine wOps_op rfl (op_not rfl rfl ?_)   -- t6 ← unOp not 4 tmp 5
      refine wOps_op rfl (op_assign rfl rfl ?_)   -- t3 ← assign tmp 6
      refine wOps_nil ?_
      refine mwp_cond_f rfl (rfl) ?_   -- if t3
      refine mwp_seq ?_
      refine mwp_region rfl ?_   -- region 3
      refine wOps_op rfl (op_fieldAddr_ref rfl rfl fo24_0 ?_)   -- t8 ← fieldAddr 24 tmp 1 0
      refine wOps_op rfl (op_load' rfl rfl rfl ta3 rfl ?_)   -- t9 ← load 3 tmp 8
      refine wOps_op rfl (op_cmp rfl rfl rfl rfl ?_)   -- t10 ← binOp eql 3 tmp 9 const int i64 6 3
      refine wOps_op rfl (op_assign rfl rfl ?_)   -- t7 ← assign tmp 10
      refine wOps_nil ?_
      refine mwp_cond_f rfl (rfl) ?_   -- if t7
      refine mwp_seq ?_
      refine mwp_draw [] [_] mo (by decide) rfl rfl rfl rfl ?_   -- region 5
      refine dOps_op rfl rfl (.cons (op_fieldAddr_ref rfl rfl fo24_0 ⟨rfl, rfl⟩) .nil) ?_   -- t12 ← fieldAddr 24 tmp 1 0
      refine dOps_op rfl rfl (.cons (op_load' rfl rfl rfl ta3 rfl ⟨rfl, rfl⟩) .nil) ?_   -- t13 ← load 3 tmp 12
      refine dOps_op rfl rfl (.cons (op_cmp rfl rfl rfl rfl ⟨rfl, rfl⟩) .nil) ?_   -- t14 ← binOp eql 3 tmp 13 const int i64 8 3
      refine dOps_op rfl rfl (.cons (op_move rfl rfl ⟨rfl, rfl⟩) .nil) ?_   -- t15 ← move tmp 14
      refine dOps_op rfl rfl (.cons (op_fieldAddr_ref rfl rfl fo24_1 ⟨rfl, rfl⟩) .nil) ?_   -- t16 ← fieldAddr 24 tmp 1 1  GUARD
      refine dOps_op rfl rfl (.cons (op_load' rfl rfl rfl ta22 rfl ⟨rfl, rfl⟩) .nil) ?_   -- t17 ← load 22 tmp 16  GUARD
      refine dOps_op rfl rfl (.cons (op_indexAddr rfl Try.underlying22 sz24 (by decide) rfl rfl rfl rfl ⟨rfl, rfl⟩) .nil) ?_   -- t18 ← indexAddr 22 tmp 17 const int i64 0  GUARD
      refine dOps_op rfl rfl (.cons (op_fieldAddr_sptr rfl rfl fo24_0 ⟨rfl, rfl⟩) .nil) ?_   -- t19 ← fieldAddr 24 tmp 18 0  GUARD
      refine dOps_op rfl rfl (.cons (op_load_sptr rfl rfl ta3 rfl ⟨rfl, rfl⟩) .nil) ?_   -- t20 ← load 3 tmp 19  GUARD
      refine dOps_op rfl rfl (.cons (op_cmp rfl rfl rfl rfl ⟨rfl, rfl⟩) .nil) ?_   -- t21 ← binOp eql 3 tmp 20 const int i64 5 3  GUARD
      rw [hk1b]
      refine dOps_op rfl rfl (.cons (op_pick rfl rfl rfl ⟨rfl, rfl⟩) .nil) ?_   -- t22 ← pick tmp 15 tmp 21 const bool false
      refine dOps_op rfl rfl (.cons (op_move rfl rfl ⟨rfl, rfl⟩) .nil) ?_   -- t23 ← move tmp 22
      refine dOps_skip rfl rfl ?_
      refine dOps_skip rfl rfl ?_
      refine dOps_skip rfl rfl ?_
      refine dOps_skip rfl rfl ?_
      refine dOps_skip rfl rfl ?_
      refine dOps_skip rfl rfl ?_
      refine dOps_skip rfl rfl ?_
      refine dOps_skip rfl rfl ?_
      refine dOps_skip rfl rfl ?_
      refine dOps_skip rfl rfl ?_
      refine dOps_op rfl rfl (.cons (op_pick rfl rfl rfl ⟨rfl, rfl⟩) .nil) ?_   -- t34 ← pick tmp 23 tmp 33 const bool false
      refine dOps_op rfl rfl (.cons (op_assign rfl rfl ⟨rfl, rfl⟩) .nil) ?_   -- t11 ← assign tmp 34
      refine dOps_nil ?_
      refine mwp_cond_f rfl (rfl) ?_   -- if t11
      refine mwp_skip ?_
      refine mwp_seq ?_
      refine mwp_region rfl ?_   -- region 7
      refine wOps_op rfl (op_assign rfl rfl ?_)   -- t2 ← assign const int i64 1
      refine wOps_nil ?_
      refine mwp_ret ?_
      exact ret_tmp (.inr rfl) Try.results15 rfl (.refl _) (.int _ _) ⟨by simp only [levelF, his]; simp; split <;> simp_all, rfl⟩
  · have h8b : (k == 8) = false := by simpa using h8
    refine mcalls_body Try.func15 rfl Try.ntmps15 (Nat.le_of_ble_eq_true rfl) ?_
    refine mwp_seq ?_
    refine mwp_region rfl ?_   -- region 0
    refine wOps_op rfl (op_box' rfl rfl rfl rfl ?_)   -- t1 ← box 24 tmp 0
    refine wOps_op rfl (op_assign rfl rfl ?_)   -- t2 ← assign const int i64 0
    refine wOps_nil ?_
    refine mwp_seq ?_
    refine mwp_block ?_   -- block 0
    refine mwp_seq ?_
    refine mwp_region rfl ?_   -- region 1
    refine wOps_op rfl (op_load' rfl rfl rfl ta24 rfl ?_)   -- t4 ← load 24 tmp 1
    refine wOps_op rfl (op_call rfl rfl rfl co9 ((rIsSchema_spec (.mk k ins) _).mono ?_))   -- t5 ← call ('rec', {'callee': ('app', 'value', [('app', 'func', [9])]),
    rintro _ _ ⟨rfl, rfl⟩
    rw [his]
    refine wOps_op rfl (op_not rfl rfl ?_)   -- t6 ← unOp not 4 tmp 5
    refine wOps_op rfl (op_assign rfl rfl ?_)   -- t3 ← assign tmp 6
    refine wOps_nil ?_
    refine mwp_cond_f rfl (rfl) ?_   -- if t3
    refine mwp_seq ?_
    refine mwp_region rfl ?_   -- region 3
    refine wOps_op rfl (op_fieldAddr_ref rfl rfl fo24_0 ?_)   -- t8 ← fieldAddr 24 tmp 1 0
    refine wOps_op rfl (op_load' rfl rfl rfl ta3 rfl ?_)   -- t9 ← load 3 tmp 8
    refine wOps_op rfl (op_cmp rfl rfl rfl rfl ?_)   -- t10 ← binOp eql 3 tmp 9 const int i64 6 3
    rw [h6b]
    refine wOps_op rfl (op_assign rfl rfl ?_)   -- t7 ← assign tmp 10
    refine wOps_nil ?_
    refine mwp_cond_f rfl (rfl) ?_   -- if t7
    refine mwp_seq ?_
    refine mwp_draw [] [_] mo (by decide) rfl rfl rfl rfl ?_   -- region 5
    refine dOps_op rfl rfl (.cons (op_fieldAddr_ref rfl rfl fo24_0 ⟨rfl, rfl⟩) .nil) ?_   -- t12 ← fieldAddr 24 tmp 1 0
    refine dOps_op rfl rfl (.cons (op_load' rfl rfl rfl ta3 rfl ⟨rfl, rfl⟩) .nil) ?_   -- t13 ← load 3 tmp 12
    refine dOps_op rfl rfl (.cons (op_cmp rfl rfl rfl rfl ⟨rfl, rfl⟩) .nil) ?_   -- t14 ← binOp eql 3 tmp 13 const int i64 8 3
    rw [h8b]
    refine dOps_op rfl rfl (.cons (op_move rfl rfl ⟨rfl, rfl⟩) .nil) ?_   -- t15 ← move tmp 14
    refine dOps_skip rfl rfl ?_
    refine dOps_skip rfl rfl ?_
    refine dOps_skip rfl rfl ?_
    refine dOps_skip rfl rfl ?_
    refine dOps_skip rfl rfl ?_
    refine dOps_skip rfl rfl ?_
    refine dOps_op rfl rfl (.cons (op_pick rfl rfl rfl ⟨rfl, rfl⟩) .nil) ?_   -- t22 ← pick tmp 15 tmp 21 const bool false
    refine dOps_op rfl rfl (.cons (op_move rfl rfl ⟨rfl, rfl⟩) .nil) ?_   -- t23 ← move tmp 22
    refine dOps_skip rfl rfl ?_
    refine dOps_skip rfl rfl ?_
    refine dOps_skip rfl rfl ?_
    refine dOps_skip rfl rfl ?_
    refine dOps_skip rfl rfl ?_
    refine dOps_skip rfl rfl ?_
    refine dOps_skip rfl rfl ?_
    refine dOps_skip rfl rfl ?_
    refine dOps_skip rfl rfl ?_
    refine dOps_skip rfl rfl ?_
    refine dOps_op rfl rfl (.cons (op_pick rfl rfl rfl ⟨rfl, rfl⟩) .nil) ?_   -- t34 ← pick tmp 23 tmp 33 const bool false
    refine dOps_op rfl rfl (.cons (op_assign rfl rfl ⟨rfl, rfl⟩) .nil) ?_   -- t11 ← assign tmp 34
    refine dOps_nil ?_
    refine mwp_cond_f rfl (rfl) ?_   -- if t11
    refine mwp_skip ?_
    refine mwp_seq ?_
    refine mwp_region rfl ?_   -- region 7
    refine wOps_op rfl (op_assign rfl rfl ?_)   -- t2 ← assign const int i64 1
    refine wOps_nil ?_
    refine mwp_ret ?_
    exact ret_tmp (.inr rfl) Try.results15 rfl (.refl _) (.int _ _) ⟨by simp [levelF, his, h6, h8], rfl⟩
end Go.Proofs.Ytiocekmiaediiaa
