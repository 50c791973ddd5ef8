/-
  Walks of package schema (layer 2), first part: how many parts a kind has, all of a row, whether a schema is one.
-/
import Derived.Test.YtiocekmiaediiaaFacts
import Derived.Test.YtiocekmiaediiaaEnd
set_option linter.unusedVariables false
set_option linter.unusedSimpArgs false
namespace Go.Proofs.Ytiocekmiaediiaa
open Go Go.MV

def partsF (k : Int) : Int := if k = 1 ∨ k = 2 ∨ k = 3 ∨ k = 6 ∨ k = 7 then 0 else if k = 4 ∨ k = 8 then 1 else if k = 5 then 2 else -1

theorem parts_spec (k : Int) (S : MS) : MCalls Try.prog 42 [.int .i64 k] S fun v σ' => v = .int .i64 (partsF k) ∧ σ' = S := by
  refine mcalls_body Try.func42 rfl Try.ntmps42 (Nat.le_of_ble_eq_true rfl) ?_
  refine mwp_seq ?_
  refine mwp_region rfl ?_   -- region 0
  refine wOps_op rfl (op_assign rfl rfl ?_)   -- t2 ← assign const int i64 0
  refine wOps_nil ?_
  refine mwp_seq ?_
  refine mwp_seq ?_
  refine mwp_region rfl ?_   -- region 1
  refine wOps_op rfl (op_move rfl rfl ?_)   -- t3 ← move tmp 0
  refine wOps_nil ?_
  refine mwp_block ?_   -- block 0
  refine mwp_seq ?_
  refine mwp_seq ?_
  refine mwp_region rfl ?_   -- region 2
  refine wOps_op rfl (op_cmp rfl rfl rfl rfl ?_)   -- t5 ← binOp eql 3 tmp 3 const int i64 1 3
  refine wOps_op rfl (op_assign rfl rfl ?_)   -- t4 ← assign tmp 5
  refine wOps_nil ?_
  refine mwp_cond_split rfl (fun h4 => ?_) (fun h4 => ?_)   -- if t4
  · -- yes
    refine mwp_skip ?_
    refine mwp_cond_t rfl h4 ?_   -- if t4
    refine mwp_seq ?_
    refine mwp_region rfl ?_   -- region 7
    refine wOps_op rfl (op_assign rfl rfl ?_)   -- t2 ← assign const int i64 0
    refine wOps_nil ?_
    refine mwp_ret ?_
    exact ret_tmp (.inr rfl) Try.results42 rfl (.refl _) (.int _ _) ⟨by simp_all [partsF], rfl⟩
  · -- no
    refine mwp_seq ?_
    refine mwp_region rfl ?_   -- region 3
    refine wOps_op rfl (op_cmp rfl rfl rfl rfl ?_)   -- t6 ← binOp eql 3 tmp 3 const int i64 2 3
    refine wOps_op rfl (op_assign rfl rfl ?_)   -- t4 ← assign tmp 6
    refine wOps_nil ?_
    refine mwp_cond_split rfl (fun h4 => ?_) (fun h4 => ?_)   -- if t4
    · -- yes
      refine mwp_skip ?_
      refine mwp_cond_t rfl h4 ?_   -- if t4
      refine mwp_seq ?_
      refine mwp_region rfl ?_   -- region 7
      refine wOps_op rfl (op_assign rfl rfl ?_)   -- t2 ← assign const int i64 0
      refine wOps_nil ?_
      refine mwp_ret ?_
      exact ret_tmp (.inr rfl) Try.results42 rfl (.refl _) (.int _ _) ⟨by simp_all [partsF], rfl⟩
    · -- no
      refine mwp_seq ?_
      refine mwp_region rfl ?_   -- region 4
      refine wOps_op rfl (op_cmp rfl rfl rfl rfl ?_)   -- t7 ← binOp eql 3 tmp 3 const int i64 3 3
      refine wOps_op rfl (op_assign rfl rfl ?_)   -- t4 ← assign tmp 7
      refine wOps_nil ?_
      refine mwp_cond_split rfl (fun h4 => ?_) (fun h4 => ?_)   -- if t4
      · -- yes
        refine mwp_skip ?_
        refine mwp_cond_t rfl h4 ?_   -- if t4
        refine mwp_seq ?_
        refine mwp_region rfl ?_   -- region 7
        refine wOps_op rfl (op_assign rfl rfl ?_)   -- t2 ← assign const int i64 0
        refine wOps_nil ?_
        refine mwp_ret ?_
        exact ret_tmp (.inr rfl) Try.results42 rfl (.refl _) (.int _ _) ⟨by simp_all [partsF], rfl⟩
      · -- no
        refine mwp_seq ?_
        refine mwp_region rfl ?_   -- region 5
        refine wOps_op rfl (op_cmp rfl rfl rfl rfl ?_)   -- t8 ← binOp eql 3 tmp 3 const int i64 6 3
        refine wOps_op rfl (op_assign rfl rfl ?_)   -- t4 ← assign tmp 8
        refine wOps_nil ?_
        refine mwp_cond_split rfl (fun h4 => ?_) (fun h4 => ?_)   -- if t4
        · -- yes
          refine mwp_skip ?_
          refine mwp_cond_t rfl h4 ?_   -- if t4
          refine mwp_seq ?_
          refine mwp_region rfl ?_   -- region 7
          refine wOps_op rfl (op_assign rfl rfl ?_)   -- t2 ← assign const int i64 0
          refine wOps_nil ?_
          refine mwp_ret ?_
          exact ret_tmp (.inr rfl) Try.results42 rfl (.refl _) (.int _ _) ⟨by simp_all [partsF], rfl⟩
        · -- no
          refine mwp_region rfl ?_   -- region 6
          refine wOps_op rfl (op_cmp rfl rfl rfl rfl ?_)   -- t9 ← binOp eql 3 tmp 3 const int i64 7 3
          refine wOps_op rfl (op_assign rfl rfl ?_)   -- t4 ← assign tmp 9
          refine wOps_nil ?_
          refine mwp_cond_split rfl (fun h4 => ?_) (fun h4 => ?_)   -- if t4
          · -- yes
            refine mwp_seq ?_
            refine mwp_region rfl ?_   -- region 7
            refine wOps_op rfl (op_assign rfl rfl ?_)   -- t2 ← assign const int i64 0
            refine wOps_nil ?_
            refine mwp_ret ?_
            exact ret_tmp (.inr rfl) Try.results42 rfl (.refl _) (.int _ _) ⟨by simp_all [partsF], rfl⟩
          · -- no
            refine mwp_seq ?_
            refine mwp_seq ?_
            refine mwp_region rfl ?_   -- region 8
            refine wOps_op rfl (op_cmp rfl rfl rfl rfl ?_)   -- t11 ← binOp eql 3 tmp 3 const int i64 4 3
            refine wOps_op rfl (op_assign rfl rfl ?_)   -- t10 ← assign tmp 11
            refine wOps_nil ?_
            refine mwp_cond_split rfl (fun h10 => ?_) (fun h10 => ?_)   -- if t10
            · -- yes
              refine mwp_skip ?_
              refine mwp_cond_t rfl h10 ?_   -- if t10
              refine mwp_seq ?_
              refine mwp_region rfl ?_   -- region 10
              refine wOps_op rfl (op_assign rfl rfl ?_)   -- t2 ← assign const int i64 1
              refine wOps_nil ?_
              refine mwp_ret ?_
              exact ret_tmp (.inr rfl) Try.results42 rfl (.refl _) (.int _ _) ⟨by simp_all [partsF], rfl⟩
            · -- no
              refine mwp_region rfl ?_   -- region 9
              refine wOps_op rfl (op_cmp rfl rfl rfl rfl ?_)   -- t12 ← binOp eql 3 tmp 3 const int i64 8 3
              refine wOps_op rfl (op_assign rfl rfl ?_)   -- t10 ← assign tmp 12
              refine wOps_nil ?_
              refine mwp_cond_split rfl (fun h10 => ?_) (fun h10 => ?_)   -- if t10
              · -- yes
                refine mwp_seq ?_
                refine mwp_region rfl ?_   -- region 10
                refine wOps_op rfl (op_assign rfl rfl ?_)   -- t2 ← assign const int i64 1
                refine wOps_nil ?_
                refine mwp_ret ?_
                exact ret_tmp (.inr rfl) Try.results42 rfl (.refl _) (.int _ _) ⟨by simp_all [partsF], rfl⟩
              · -- no
                refine mwp_seq ?_
                refine mwp_region rfl ?_   -- region 11
                refine wOps_op rfl (op_cmp rfl rfl rfl rfl ?_)   -- t14 ← binOp eql 3 tmp 3 const int i64 5 3
                refine wOps_op rfl (op_assign rfl rfl ?_)   -- t13 ← assign tmp 14
                refine wOps_nil ?_
                refine mwp_cond_split rfl (fun h13 => ?_) (fun h13 => ?_)   -- if t13
                · -- yes
                  refine mwp_seq ?_
                  refine mwp_region rfl ?_   -- region 12
                  refine wOps_op rfl (op_assign rfl rfl ?_)   -- t2 ← assign const int i64 2
                  refine wOps_nil ?_
                  refine mwp_ret ?_
                  exact ret_tmp (.inr rfl) Try.results42 rfl (.refl _) (.int _ _) ⟨by simp_all [partsF], rfl⟩
                · -- no
                  refine mwp_skip ?_
                  refine mwp_seq ?_
                  refine mwp_region rfl ?_   -- region 13
                  refine wOps_op rfl (op_assign rfl rfl ?_)   -- t2 ← assign const int i64 -1
                  refine wOps_nil ?_
                  refine mwp_ret ?_
                  exact ret_tmp (.inr rfl) Try.results42 rfl (.refl _) (.int _ _) ⟨by simp_all [partsF], rfl⟩
theorem all_spec (l : List Sch) (p : Sch → Bool) (kf : FuncId) (first caps : List MV) (S : MS) (hco : CallOk Try.prog kf) (hp : ∀ s ∈ l, ∀ X : MS, MCalls Try.prog kf (first ++ [encS s] ++ caps) (S ++ X) fun v σ' => v = .bool (p s) ∧ σ' = S ++ X) :
    MCalls Try.prog 43 [.lst none 2 (encSs l), .fn (.func kf) first caps] S fun v σ' => v = .bool (l.all p) ∧ σ' = S := by
  refine mcalls_body Try.func43 rfl Try.ntmps43 (Nat.le_of_ble_eq_true rfl) ?_
  refine mwp_len (t := 0) rfl fun hlen => ?_
  refine mwp_seq ?_
  refine mwp_region rfl ?_   -- region 0
  refine wOps_op rfl (op_assign rfl rfl ?_)   -- t4 ← assign const bool false
  refine wOps_nil ?_
  refine mwp_seq ?_
  refine mwp_seq ?_
  refine mwp_region rfl ?_   -- region 1
  refine wOps_op rfl (op_move rfl rfl ?_)   -- t7 ← move tmp 0
  refine wOps_op rfl (op_len_lst rfl Try.underlying22 rfl ?_)   -- t8 ← call ('rec', {'callee': ('app', 'builtin', [('id', 'Go.Builtin.le
  refine wOps_op rfl (op_move rfl rfl ?_)   -- t9 ← move const int i64 0
  refine wOps_nil ?_
  refine mwp_block ?_   -- block 0
  refine mwp_loopJ (α := Nat) (fun i => [(0, .lst none 2 (encSs l)), (1, .fn (.func kf) first caps), (7, .lst none 2 (encSs l)), (8, .int .i64 ((encSs l).length : Int)), (9, .int .i64 (i : Int))]) (fun i => []) (fun i => i ≤ l.length ∧ (l.take i).all p = true) (fun i => l.length - i) (0) (Nat.le_refl _) ⟨by omega, rfl⟩ rfl (.keep rfl (.keep rfl (.keep rfl (.keep rfl (.keep rfl .nil))))) ?_
  rintro i ⟨hi, hall⟩
  refine mwp_seq ?_
  refine mwp_region rfl ?_   -- region 2
  refine wOps_op rfl (op_cmp rfl rfl rfl rfl ?_)   -- t10 ← binOp lss 3 tmp 9 tmp 8 3
  refine wOps_nil ?_
  refine mwp_seq ?_
  refine mwp_cond_split rfl (fun h10 => ?_) (fun h10 => ?_)   -- if t10
  · -- yes
    have hlt : i < l.length := by rw [encSs_length] at h10; simpa using h10
    obtain ⟨⟨k, ins⟩, hs⟩ : ∃ s, l[i]? = some s := ⟨_, List.getElem?_eq_getElem hlt⟩
    refine mwp_skip ?_
    refine mwp_seq ?_
    refine mwp_block ?_   -- block 1
    refine mwp_seq ?_
    refine mwp_region rfl ?_   -- region 3
    refine wOps_op rfl (op_indexAddr rfl Try.underlying22 sz24 (by decide) rfl rfl rfl (encSs_get hs) ?_)   -- t11 ← indexAddr 22 tmp 7 tmp 9
    refine wOps_op rfl (op_load_sptr rfl rfl ta24 rfl ?_)   -- t12 ← load 24 tmp 11
    refine wOps_op rfl (op_alloc' rfl zm24 rfl rfl ?_)   -- t6 ← alloc 24
    refine wOps_op rfl (op_store' rfl rfl rfl rfl sz24 rfl rfl (Nat.le_of_ble_eq_true rfl) rfl ?_)   -- store 24 tmp 6 tmp 12
    refine wOps_nil ?_
    refine mwp_seq ?_
    refine mwp_region rfl ?_   -- region 4
    refine wOps_op rfl (op_move rfl rfl ?_)   -- t13 ← move tmp 1
    refine wOps_op rfl (op_load' rfl rfl rfl ta24 rfl ?_)   -- t14 ← load 24 tmp 6
    refine wOps_op rfl (op_call rfl rfl rfl hco ((hp _ (List.mem_of_getElem? hs) _).mono ?_))   -- t15 ← call ('rec', {'callee': ('app', 'value', [('app', 'tmp', [13])]),
    rintro _ _ ⟨rfl, rfl⟩
    refine wOps_op rfl (op_not rfl rfl ?_)   -- t16 ← unOp not 4 tmp 15
    refine wOps_nil ?_
    refine mwp_cond_split rfl (fun h16 => ?_) (fun h16 => ?_)   -- if t16
    · -- yes
      refine mwp_seq ?_
      refine mwp_region rfl ?_   -- region 5
      refine wOps_op rfl (op_assign rfl rfl ?_)   -- t4 ← assign const bool false
      refine wOps_nil ?_
      refine mwp_ret ?_
      exact ret_tmp (.inr rfl) Try.results43 rfl (.refl _) (.bool _) ⟨by rw [List.all_eq_false.2 ⟨_, List.mem_of_getElem? hs, by simpa using h16⟩], rfl⟩
    · -- no
      refine mwp_skip ?_
      refine mwp_region rfl ?_   -- region 6
      refine wOps_op rfl (op_arith rfl rfl rfl rfl ?_)   -- t17 ← binOp add 3 tmp 9 const int i64 1 3
      refine wOps_op rfl (op_move rfl rfl ?_)   -- t9 ← move tmp 17
      refine wOps_nil ?_
      refine ⟨i + 1, _, by omega, ⟨by omega, ?_⟩, rfl, .nil, .old rfl rfl (.old rfl rfl (.old rfl rfl (.old rfl rfl (.new' rfl (int_succ hlt (by rw [encSs_length] at hlen; exact hlen)) (.int _ _) .nil))))⟩
      rw [List.take_add_one, hs]
      simp [hall]
      simpa using h16
  · -- no
    have hge : i = l.length := by rw [encSs_length] at h10; simp at h10; omega
    refine mwp_exit ?_
    refine mwp_seq ?_
    refine mwp_region rfl ?_   -- region 7
    refine wOps_op rfl (op_assign rfl rfl ?_)   -- t4 ← assign const bool true
    refine wOps_nil ?_
    refine mwp_ret ?_
    exact ret_tmp (.inr rfl) Try.results43 rfl (.refl _) (.bool _) ⟨by rw [hge, List.take_length] at hall; rw [hall], rfl⟩

def isF : Nat → Sch → Bool
  | 0, _ => false
  | d + 1, .mk k ins => (partsF k == (ins.length : Int)) && ins.all (isF d)

theorem is1_spec (d : Nat) (hd : d < 1000) (ih : ∀ (s : Sch) (S : MS), MCalls Try.prog 31 [encS s, .int .i64 (d : Int)] S fun v σ' => v = .bool (isF d s) ∧ σ' = S) (s : Sch) (id : Nat) (S : MS) (hS : S[id]? = some (.cells [.int .i64 ((d + 1 : Nat) : Int)])) :
    MCalls Try.prog 44 [encS s, .ref id 0] S fun v σ' => v = .bool (isF d s) ∧ σ' = S := by
  obtain ⟨k, ins⟩ := s
  have hsub : IntKind.i64.wrap (((d + 1 : Nat) : Int) - 1) = (d : Int) := by rw [wrap_i64 (by omega)]; omega
  refine mcalls_body Try.func44 rfl Try.ntmps44 (Nat.le_of_ble_eq_true rfl) ?_
  refine mwp_seq ?_
  refine mwp_region rfl ?_   -- region 0
  refine wOps_op rfl (op_box' rfl rfl rfl rfl ?_)   -- t2 ← box 24 tmp 0
  refine wOps_op rfl (op_assign rfl rfl ?_)   -- t3 ← assign const bool false
  refine wOps_nil ?_
  refine mwp_seq ?_
  refine mwp_region rfl ?_   -- region 1
  refine wOps_op rfl (op_load' rfl rfl rfl ta24 rfl ?_)   -- t4 ← load 24 tmp 2
  refine wOps_op rfl (op_load_far rfl rfl hS ta3 rfl ?_)   -- t5 ← load 3 tmp 1
  refine wOps_op rfl (op_arith rfl rfl rfl rfl ?_)   -- t6 ← binOp sub 3 tmp 5 const int i64 1 3
  rw [hsub]
  refine wOps_op rfl (op_call rfl rfl rfl co31 ((ih (.mk k ins) _).mono ?_))   -- t7 ← call ('rec', {'callee': ('app', 'value', [('app', 'func', [31])])
  rintro _ _ ⟨rfl, rfl⟩
  refine wOps_op rfl (op_assign rfl rfl ?_)   -- t3 ← assign tmp 7
  refine wOps_nil ?_
  refine mwp_ret ?_
  exact ret_tmp (.inr rfl) Try.results44 rfl (.refl _) (.bool _) ⟨rfl, rfl⟩

theorem is_spec (d : Nat) : d < 1000 → ∀ (s : Sch) (S : MS), MCalls Try.prog 31 [encS s, .int .i64 (d : Int)] S fun v σ' => v = .bool (isF d s) ∧ σ' = S := by
  induction d with
  | zero =>
    rintro - ⟨k, ins⟩ S
    refine mcalls_body Try.func31 rfl Try.ntmps31 (Nat.le_of_ble_eq_true rfl) ?_
    refine mwp_seq ?_
    refine mwp_region rfl ?_   -- region 0
    refine wOps_op rfl (op_box' rfl rfl rfl rfl ?_)   -- t2 ← box 24 tmp 0
    refine wOps_op rfl (op_box' rfl rfl rfl rfl ?_)   -- t3 ← box 3 tmp 1
    refine wOps_op rfl (op_assign rfl rfl ?_)   -- t4 ← assign const bool false
    refine wOps_nil ?_
    refine mwp_seq ?_
    refine mwp_seq ?_
    refine mwp_draw [] [_] mo (by decide) rfl rfl rfl rfl ?_   -- region 1
    refine dOps_op rfl rfl (.cons (op_load' rfl rfl rfl ta3 rfl ⟨rfl, rfl⟩) .nil) ?_   -- t5 ← load 3 tmp 3
    refine dOps_op rfl rfl (.cons (op_cmp rfl rfl rfl rfl ⟨rfl, rfl⟩) .nil) ?_   -- t6 ← binOp eql 3 tmp 5 const int i64 0 3
    refine dOps_op rfl rfl (.cons (op_move rfl rfl ⟨rfl, rfl⟩) .nil) ?_   -- t7 ← move tmp 6
    refine dOps_skip rfl rfl ?_
    refine dOps_skip rfl rfl ?_
    refine dOps_skip rfl rfl ?_
    refine dOps_skip rfl rfl ?_
    refine dOps_skip rfl rfl ?_
    refine dOps_skip rfl rfl ?_
    refine dOps_skip rfl rfl ?_
    refine dOps_op rfl rfl (.cons (op_pick rfl rfl rfl ⟨rfl, rfl⟩) .nil) ?_   -- t15 ← pick tmp 7 const bool true tmp 14
    refine dOps_nil ?_
    refine mwp_cond_t rfl (rfl) ?_   -- if t15
    refine mwp_seq ?_
    refine mwp_region rfl ?_   -- region 2
    refine wOps_op rfl (op_assign rfl rfl ?_)   -- t4 ← assign const bool false
    refine wOps_nil ?_
    refine mwp_ret ?_
    exact ret_tmp (.inr rfl) Try.results31 rfl (.refl _) (.bool _) ⟨by simp [isF], rfl⟩
  | succ d ih =>
    rintro hd ⟨k, ins⟩ S
    have h0 : (((d + 1 : Nat) : Int) == 0) = false := by simp; omega
    refine mcalls_body Try.func31 rfl Try.ntmps31 (Nat.le_of_ble_eq_true rfl) ?_
    refine mwp_seq ?_
    refine mwp_region rfl ?_   -- region 0
    refine wOps_op rfl (op_box' rfl rfl rfl rfl ?_)   -- t2 ← box 24 tmp 0
    refine wOps_op rfl (op_box' rfl rfl rfl rfl ?_)   -- t3 ← box 3 tmp 1
    refine wOps_op rfl (op_assign rfl rfl ?_)   -- t4 ← assign const bool false
    refine wOps_nil ?_
    refine mwp_seq ?_
    refine mwp_seq ?_
    refine mwp_draw [] [_] mo (by decide) rfl rfl rfl rfl ?_   -- region 1
    refine dOps_op rfl rfl (.cons (op_load' rfl rfl rfl ta3 rfl ⟨rfl, rfl⟩) .nil) ?_   -- t5 ← load 3 tmp 3
    refine dOps_op rfl rfl (.cons (op_cmp rfl rfl rfl rfl ⟨rfl, rfl⟩) .nil) ?_   -- t6 ← binOp eql 3 tmp 5 const int i64 0 3
    rw [h0]
    refine dOps_op rfl rfl (.cons (op_move rfl rfl ⟨rfl, rfl⟩) .nil) ?_   -- t7 ← move tmp 6
    refine dOps_op rfl rfl (.cons (op_fieldAddr_ref rfl rfl fo24_0 ⟨rfl, rfl⟩) .nil) ?_   -- t8 ← fieldAddr 24 tmp 2 0  GUARD
    refine dOps_op rfl rfl (.cons (op_load' rfl rfl rfl ta3 rfl ⟨rfl, rfl⟩) .nil) ?_   -- t9 ← load 3 tmp 8  GUARD
    refine dOps_op rfl rfl (.cons (op_call rfl rfl rfl co42 (parts_spec _ _)) .nil) ?_   -- t10 ← call ('rec', {'callee': ('app', 'value', [('app', 'func', [42])])  GUARD
    refine dOps_op rfl rfl (.cons (op_fieldAddr_ref rfl rfl fo24_1 ⟨rfl, rfl⟩) .nil) ?_   -- t11 ← fieldAddr 24 tmp 2 1  GUARD
    refine dOps_op rfl rfl (.cons (op_load' rfl rfl rfl ta22 rfl ⟨rfl, rfl⟩) .nil) ?_   -- t12 ← load 22 tmp 11  GUARD
    refine dOps_op rfl rfl (.cons (op_len_lst rfl Try.underlying22 rfl ⟨rfl, rfl⟩) .nil) ?_   -- t13 ← call ('rec', {'callee': ('app', 'builtin', [('id', 'Go.Builtin.le  GUARD
    refine dOps_op rfl rfl (.cons (op_cmp rfl rfl rfl rfl ⟨rfl, rfl⟩) .nil) ?_   -- t14 ← binOp neq 3 tmp 10 tmp 13 3  GUARD
    refine dOps_op rfl rfl (.cons (op_pick rfl rfl rfl ⟨rfl, rfl⟩) .nil) ?_   -- t15 ← pick tmp 7 const bool true tmp 14
    refine dOps_nil ?_
    refine mwp_cond_split rfl (fun h15 => ?_) (fun h15 => ?_)   -- if t15
    · -- yes
      refine mwp_seq ?_
      refine mwp_region rfl ?_   -- region 2
      refine wOps_op rfl (op_assign rfl rfl ?_)   -- t4 ← assign const bool false
      refine wOps_nil ?_
      refine mwp_ret ?_
      exact ret_tmp (.inr rfl) Try.results31 rfl (.refl _) (.bool _) ⟨by rw [encSs_length] at h15; simp at h15; simp [isF, h15], rfl⟩
    · -- no
      refine mwp_skip ?_
      refine mwp_seq ?_
      refine mwp_region rfl ?_   -- region 3
      refine wOps_op rfl (op_fieldAddr_ref rfl rfl fo24_1 ?_)   -- t16 ← fieldAddr 24 tmp 2 1
      refine wOps_op rfl (op_load' rfl rfl rfl ta22 rfl ?_)   -- t17 ← load 22 tmp 16
      refine wOps_op rfl (op_makeFunc rfl rfl rfl ?_)   -- t18 ← makeFunc func 44 [] [tmp 3]
      refine wOps_op rfl (op_call rfl rfl rfl co43 ((all_spec ins (isF d) _ _ _ _ co44 fun s _ X => is1_spec d (by omega) (ih (by omega)) s _ _ (by rw [List.getElem?_append_left (by simp)]; simp [MV.cells])).mono ?_))   -- t19 ← call ('rec', {'callee': ('app', 'value', [('app', 'func', [43])])
      rintro _ _ ⟨rfl, rfl⟩
      refine wOps_op rfl (op_assign rfl rfl ?_)   -- t4 ← assign tmp 19
      refine wOps_nil ?_
      refine mwp_ret ?_
      exact ret_tmp (.inr rfl) Try.results31 rfl (.refl _) (.bool _) ⟨by rw [encSs_length] at h15; simp at h15; simp [isF, h15], rfl⟩

theorem Is_spec (s : Sch) (S : MS) : MCalls Try.prog 8 [encS s] S fun v σ' => v = .bool (isF 16 s) ∧ σ' = S := by
  obtain ⟨k, ins⟩ := s
  refine mcalls_body Try.func8 rfl Try.ntmps8 (Nat.le_of_ble_eq_true rfl) ?_
  refine mwp_seq ?_
  refine mwp_region rfl ?_   -- region 0
  refine wOps_op rfl (op_box' rfl rfl rfl rfl ?_)   -- t1 ← box 24 tmp 0
  refine wOps_op rfl (op_assign rfl rfl ?_)   -- t2 ← assign const bool false
  refine wOps_nil ?_
  refine mwp_seq ?_
  refine mwp_region rfl ?_   -- region 1
  refine wOps_op rfl (op_load' rfl rfl rfl ta24 rfl ?_)   -- t3 ← load 24 tmp 1
  refine wOps_op rfl (op_call rfl rfl rfl co31 ((is_spec 16 (by omega) (.mk k ins) _).mono ?_))   -- t4 ← call ('rec', {'callee': ('app', 'value', [('app', 'func', [31])])
  rintro _ _ ⟨rfl, rfl⟩
  refine wOps_op rfl (op_assign rfl rfl ?_)   -- t2 ← assign tmp 4
  refine wOps_nil ?_
  refine mwp_ret ?_
  exact ret_tmp (.inr rfl) Try.results8 rfl (.refl _) (.bool _) ⟨rfl, rfl⟩
end Go.Proofs.Ytiocekmiaediiaa
