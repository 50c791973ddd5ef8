/-
  Walk of the law on steps of clocks (layer 3).
-/
import Derived.Test.YtiocekmiaediiaaClkC
import Derived.Test.YtiocekmiaediiaaClkS
set_option linter.unusedVariables false
set_option linter.unusedSimpArgs false
set_option maxHeartbeats 400000
namespace Go.Proofs.Ytiocekmiaediiaa
open Go Go.MV
def encU (v : Int) : MV := .int .u64 v
def encB (b : Nat) : MV := .int .u8 (b : Int)
theorem step0 : StepC [] [0, 0, 0, 0, 0, 0, 0, 0] 0 := by
  refine ⟨List.Pairwise.nil, (fun t ht => by cases ht), (fun t ht => by cases ht), rfl, fun k hk n hn => ?_, rfl⟩
  have : n = 0 := by
    have hm := List.mem_of_getElem? hn
    simpa using hm
  subst this
  exact ⟨rfl, by omega, by omega⟩


theorem ClockSteps_spec (l : List Nat) (hl : ∀ b ∈ l, b ≤ 255) (S : MS) : MCalls Try.prog 6 [.lst none 1 (l.map encB)] S fun v σ' => v = .bool true ∧ σ' = S := by
  refine mcalls_body Try.func6 rfl Try.ntmps6 (Nat.le_of_ble_eq_true rfl) ?_
  refine mwp_len (t := 0) rfl fun hlen => ?_
  rw [List.length_map] at hlen
  refine mwp_seq ?_
  refine mwp_region rfl ?_   -- region 0
  refine wOps_op rfl (op_assign rfl rfl ?_)   -- t2 ← assign const bool false
  refine wOps_nil ?_
  refine mwp_seq ?_
  refine mwp_seq ?_
  refine mwp_region rfl ?_   -- region 1
  refine wOps_op rfl (op_call rfl rfl rfl co18 ((knownC_spec _).mono ?_))   -- t10 ← call ('rec', {'callee': ('app', 'value', [('app', 'func', [18])])
  rintro _ _ ⟨rfl, rfl⟩
  refine wOps_op rfl (op_not rfl rfl ?_)   -- t11 ← unOp not 4 tmp 10
  refine wOps_nil ?_
  refine mwp_cond_f rfl (rfl) ?_   -- if t11
  refine mwp_skip ?_
  refine mwp_seq ?_
  refine mwp_seq ?_
  refine mwp_region rfl ?_   -- region 3
  refine wOps_op rfl (op_move rfl rfl ?_)   -- t12 ← move tmp 0
  refine wOps_op rfl (op_len_lst rfl Try.underlying42 rfl ?_)   -- t13 ← call ('rec', {'callee': ('app', 'builtin', [('id', 'Go.Builtin.le
  refine wOps_op rfl (op_cmp rfl rfl rfl rfl ?_)   -- t14 ← binOp gtr 3 tmp 13 const int i64 60 3
  refine wOps_nil ?_
  refine mwp_cond_split rfl (fun h14 => ?_) (fun h14 => ?_)   -- if t14
  · -- yes
    refine mwp_seq ?_
    refine mwp_region rfl ?_   -- region 4
    refine wOps_op rfl (op_assign rfl rfl ?_)   -- t2 ← assign const bool true
    refine wOps_nil ?_
    refine mwp_ret ?_
    exact ret_tmp (.inr rfl) Try.results6 rfl (.of_eq (rfl)) (.bool _) ⟨rfl, rfl⟩
  · -- no
    have hl60 : l.length ≤ 60 := by simp at h14; omega
    refine mwp_skip ?_
    refine mwp_seq ?_
    refine mwp_region rfl ?_   -- region 5
    refine wOps_op rfl (op_assign rfl rfl ?_)   -- t3 ← assign const slice none 0 0
    refine wOps_nil ?_
    refine mwp_seq ?_
    refine mwp_region rfl ?_   -- region 6
    refine wOps_op rfl (op_alloc' rfl zm43 rfl rfl ?_)   -- t4 ← alloc 43
    refine wOps_nil ?_
    refine mwp_seq ?_
    refine mwp_seq ?_
    refine mwp_region rfl ?_   -- region 7
    refine wOps_op rfl (op_assign rfl rfl ?_)   -- t5 ← assign const int i64 0
    refine wOps_nil ?_
    refine mwp_block ?_   -- block 0
    refine mwp_loopK (α := Nat × List Tk × List Int) [(0, _), (4, _)] (fun x => [(5, .int .i64 (x.1 : Int)), (3, .lst none 2 (x.2.1.map encT))]) (fun x => [.cells (x.2.2.map encU)]) (fun x => x.1 ≤ l.length ∧ StepC x.2.1 x.2.2 x.1) (fun x => l.length - x.1) (⟨0, [], [0, 0, 0, 0, 0, 0, 0, 0]⟩) (.keep rfl (.keep rfl (.nil))) (.keep rfl (.cons rfl (.nil 2) (.nil))) (⟨by simp, step0⟩) rfl ?_
    rintro ⟨i, c, ns⟩ ⟨hi, hc⟩
    dsimp only at hi hc ⊢
    refine mwp_seq ?_
    refine mwp_seq ?_
    refine mwp_region rfl ?_   -- region 8
    refine wOps_op rfl (op_move rfl rfl ?_)   -- t15 ← move tmp 5
    refine wOps_op rfl (op_move rfl rfl ?_)   -- t16 ← move tmp 0
    refine wOps_op rfl (op_len_lst rfl Try.underlying42 rfl ?_)   -- t17 ← call ('rec', {'callee': ('app', 'builtin', [('id', 'Go.Builtin.le
    refine wOps_op rfl (op_cmp rfl rfl rfl rfl ?_)   -- t18 ← binOp lss 3 tmp 15 tmp 17 3
    refine wOps_nil ?_
    refine mwp_cond_split rfl (fun h18 => ?_) (fun h18 => ?_)   -- if t18
    · -- yes
      have hlt : i < l.length := by simpa using h18
      obtain ⟨b, hs⟩ : ∃ q_, l[i]? = some q_ := ⟨_, List.getElem?_eq_getElem hlt⟩
      have hb : b ≤ 255 := hl b (List.mem_of_getElem? hs)
      obtain ⟨n, hn⟩ : ∃ n, ns[b % 8]? = some n := ⟨_, List.getElem?_eq_getElem (by rw [hc.len]; omega)⟩
      obtain ⟨hs1, hs2, hs3, hs4⟩ := step_next hc (by omega) (by omega : b % 8 < 8) hn
      obtain ⟨hn0, hn1, hn2⟩ := hc.of (b % 8) (by omega) n hn
      refine mwp_skip ?_
      refine mwp_seq ?_
      refine mwp_block ?_   -- block 1
      refine mwp_seq ?_
      refine mwp_region rfl ?_   -- region 10
      refine wOps_op rfl (op_move rfl rfl ?_)   -- t21 ← move tmp 0
      refine wOps_op rfl (op_move rfl rfl ?_)   -- t22 ← move tmp 5
      refine wOps_op rfl (op_indexAddr rfl Try.underlying42 sz5 (by decide) rfl rfl rfl (get_map hs) ?_)   -- t23 ← indexAddr 42 tmp 21 tmp 22
      refine wOps_op rfl (op_load_sptr rfl rfl ta5 rfl ?_)   -- t24 ← load 5 tmp 23
      refine wOps_op rfl (op_rem rfl rfl rfl (by decide) (nat_tmod b 8) ?_)   -- t25 ← binOp rem 5 tmp 24 const int u8 8 5
      refine wOps_op rfl (op_convInt rfl Try.underlying5 Try.underlying3 rfl (wrap_i64 (by omega)) ?_)   -- t26 ← convert 5 3 tmp 25
      refine wOps_op rfl (op_assign rfl rfl ?_)   -- t6 ← assign tmp 26
      refine wOps_nil ?_
      refine mwp_seq ?_
      refine mwp_region rfl ?_   -- region 11
      refine wOps_op rfl (op_move rfl rfl ?_)   -- t27 ← move tmp 3
      refine wOps_op rfl (op_move rfl rfl ?_)   -- t28 ← move tmp 6
      refine wOps_op rfl (op_call rfl rfl rfl co25 ((clkUp_spec c ((b % 8 : Nat) : Int) (by have := up_width hc.up hc.who; omega) _).mono ?_))   -- t29 ← call ('rec', {'callee': ('app', 'value', [('app', 'func', [25])])
      rintro _ _ ⟨rfl, rfl⟩
      refine wOps_op rfl (op_assign rfl rfl ?_)   -- t7 ← assign tmp 29
      refine wOps_nil ?_
      refine mwp_seq ?_
      refine mwp_region rfl ?_   -- region 12
      refine wOps_op rfl (op_move rfl rfl ?_)   -- t30 ← move tmp 6
      refine wOps_op rfl (op_indexAddr_arr rfl Try.underlying43 sz36 rfl rfl rfl (by omega) ?_)   -- t31 ← indexAddr 43 tmp 4 tmp 30
      refine wOps_op rfl (op_load' rfl rfl rfl ta36 (by rw [Nat.zero_add, Nat.mul_one]; exact get_map (en := encU) hn) ?_)   -- t32 ← load 36 tmp 31
      refine wOps_op rfl (op_arith rfl rfl rfl (show _ = some (n + 1) from by simp only [intArith]; rw [wrap_u64 (by omega)]) ?_)   -- t33 ← binOp add 36 tmp 32 const int u64 1 36
      refine wOps_op rfl (op_indexAddr_arr rfl Try.underlying43 sz36 rfl rfl rfl (by omega) ?_)   -- t34 ← indexAddr 43 tmp 4 tmp 30
      refine wOps_op rfl (op_store' rfl rfl rfl rfl sz36 rfl rfl (by rw [List.length_map, hc.len]; omega) (congrArg (fun q => [MObj.cells q]) (set_cells (en := encU) (a := n + 1) (i := b % 8) (by omega) (by rw [hc.len]; omega))) ?_)   -- store 36 tmp 34 tmp 33
      refine wOps_nil ?_
      refine mwp_seq ?_
      refine mwp_seq ?_
      refine mwp_draw [] [_] mo (by decide) rfl rfl rfl rfl ?_   -- region 13
      refine dOps_op rfl rfl (.cons (op_move rfl rfl ⟨rfl, rfl⟩) .nil) ?_   -- t35 ← move tmp 3
      refine dOps_op rfl rfl (.cons (op_move rfl rfl ⟨rfl, rfl⟩) .nil) ?_   -- t36 ← move tmp 7
      refine dOps_op rfl rfl (.cons (op_call rfl rfl rfl co29 (clkCmp_spec c (upF c ((b % 8 : Nat) : Int)) (by have := up_width hc.up hc.who; have := join_len c [((b % 8 : Nat), nextF (ofF c ((b % 8 : Nat) : Int)))]; unfold upF; simp only [List.length_cons, List.length_nil] at *; omega) _)) .nil) ?_   -- t37 ← call ('rec', {'callee': ('app', 'value', [('app', 'func', [29])])
      rw [hs2]
      refine dOps_op rfl rfl (.cons (op_cmp rfl rfl rfl (show _ = some false from rfl) ⟨rfl, rfl⟩) .nil) ?_   -- t38 ← binOp neq 3 tmp 37 const int i64 -1 3
      refine dOps_op rfl rfl (.cons (op_move rfl rfl ⟨rfl, rfl⟩) .nil) ?_   -- t39 ← move tmp 38
      refine dOps_op rfl rfl (.cons (op_move rfl rfl ⟨rfl, rfl⟩) .nil) ?_   -- t40 ← move tmp 7  GUARD
      refine dOps_op rfl rfl (.cons (op_call rfl rfl rfl co19 (clkIs_spec _ _)) .nil) ?_   -- t41 ← call ('rec', {'callee': ('app', 'value', [('app', 'func', [19])])  GUARD
      rw [hs3]
      refine dOps_op rfl rfl (.cons (op_not rfl rfl ⟨rfl, rfl⟩) .nil) ?_   -- t42 ← unOp not 4 tmp 41  GUARD
      refine dOps_op rfl rfl (.cons (op_pick rfl rfl rfl ⟨rfl, rfl⟩) .nil) ?_   -- t43 ← pick tmp 39 const bool true tmp 42
      refine dOps_op rfl rfl (.cons (op_move rfl rfl ⟨rfl, rfl⟩) .nil) ?_   -- t44 ← move tmp 43
      refine dOps_op rfl rfl (.cons (op_move rfl rfl ⟨rfl, rfl⟩) .nil) ?_   -- t45 ← move tmp 7  GUARD
      refine dOps_op rfl rfl (.cons (op_move rfl rfl ⟨rfl, rfl⟩) .nil) ?_   -- t46 ← move tmp 6  GUARD
      refine dOps_op rfl rfl (.cons (op_call rfl rfl rfl co23 (clkOf_spec _ _ _)) .nil) ?_   -- t47 ← call ('rec', {'callee': ('app', 'value', [('app', 'func', [23])])  GUARD
      rw [hs4]
      refine dOps_op rfl rfl (.cons (op_move rfl rfl ⟨rfl, rfl⟩) .nil) ?_   -- t48 ← move tmp 6  GUARD
      refine dOps_op rfl rfl (.cons (op_indexAddr_arr rfl Try.underlying43 sz36 rfl rfl rfl (by omega) ⟨rfl, rfl⟩) .nil) ?_   -- t49 ← indexAddr 43 tmp 4 tmp 48  GUARD
      refine dOps_op rfl rfl (.cons (op_load' rfl rfl rfl ta36 (by rw [Nat.zero_add, Nat.mul_one]; exact get_map (en := encU) (by rw [List.getElem?_set, if_pos rfl, if_pos (by rw [hc.len]; omega)])) ⟨rfl, rfl⟩) .nil) ?_   -- t50 ← load 36 tmp 49  GUARD
      refine dOps_op rfl rfl (.cons (op_cmp rfl rfl rfl rfl ⟨rfl, rfl⟩) .nil) ?_   -- t51 ← binOp neq 36 tmp 47 tmp 50 36  GUARD
      rw [bne_self_eq_false]
      refine dOps_op rfl rfl (.cons (op_pick rfl rfl rfl ⟨rfl, rfl⟩) .nil) ?_   -- t52 ← pick tmp 44 const bool true tmp 51
      refine dOps_nil ?_
      refine mwp_cond_f rfl (rfl) ?_   -- if t52
      refine mwp_skip ?_
      refine mwp_region rfl ?_   -- region 15
      refine wOps_op rfl (op_move rfl rfl ?_)   -- t53 ← move tmp 7
      refine wOps_op rfl (op_assign rfl rfl ?_)   -- t3 ← assign tmp 53
      refine wOps_nil ?_
      refine mwp_region rfl ?_   -- region 9
      refine wOps_op rfl (op_move rfl rfl ?_)   -- t19 ← move tmp 5
      refine wOps_op rfl (op_arith rfl rfl rfl rfl ?_)   -- t20 ← binOp add 3 tmp 19 const int i64 1 3
      refine wOps_op rfl (op_assign rfl rfl ?_)   -- t5 ← assign tmp 20
      refine wOps_nil ?_
      refine ⟨⟨i + 1, upF c ((b % 8 : Nat) : Int), ns.set (b % 8) (n + 1)⟩, by dsimp only; omega, ⟨by dsimp only; omega, hs1⟩, rfl, (.keep rfl (.keep rfl (.nil))), (.eq rfl (int_succ hlt hlen) (.eq rfl (rfl) (.nil)))⟩
    · -- no
      have hge : i = l.length := by simp at h18; omega
      refine mwp_exit ?_
      refine mwp_seq ?_
      refine mwp_region rfl ?_   -- region 16
      refine wOps_op rfl (op_assign rfl rfl ?_)   -- t8 ← assign const int u64 0
      refine wOps_nil ?_
      refine mwp_seq ?_
      refine mwp_seq ?_
      refine mwp_region rfl ?_   -- region 17
      refine wOps_op rfl (op_assign rfl rfl ?_)   -- t9 ← assign const int i64 0
      refine wOps_nil ?_
      refine mwp_block ?_   -- block 2
      refine mwp_loopK (α := Nat × Int) [(0, _), (3, _)] (fun x => [(9, .int .i64 (x.1 : Int)), (8, .int .u64 x.2)]) (fun x => [.cells (ns.map encU)]) (fun x => x.1 ≤ c.length ∧ x.2 = sumF (c.take x.1)) (fun x => c.length - x.1) (⟨0, 0⟩) (.keep rfl (.keep rfl (.nil))) (.keep rfl (.keep rfl (.nil))) (⟨by simp, rfl⟩) rfl ?_
      rintro ⟨j, sm⟩ ⟨hj, hsm⟩
      dsimp only at hj hsm ⊢
      refine mwp_seq ?_
      refine mwp_seq ?_
      refine mwp_region rfl ?_   -- region 18
      refine wOps_op rfl (op_move rfl rfl ?_)   -- t54 ← move tmp 9
      refine wOps_op rfl (op_move rfl rfl ?_)   -- t55 ← move tmp 3
      refine wOps_op rfl (op_len_lst rfl Try.underlying33 rfl ?_)   -- t56 ← call ('rec', {'callee': ('app', 'builtin', [('id', 'Go.Builtin.le
      refine wOps_op rfl (op_cmp rfl rfl rfl rfl ?_)   -- t57 ← binOp lss 3 tmp 54 tmp 56 3
      refine wOps_nil ?_
      refine mwp_cond_split rfl (fun h57 => ?_) (fun h57 => ?_)   -- if t57
      · -- yes
        have hltj : j < c.length := by simpa using h57
        obtain ⟨t, ht⟩ : ∃ q_, c[j]? = some q_ := ⟨_, List.getElem?_eq_getElem hltj⟩
        have hlt2 : j < maxLen := by have := up_width hc.up hc.who; simp only [maxLen]; omega
        have hadd : IntKind.u64.wrap (sm + t.2) = sumF (c.take (j + 1)) := by
          have h1 := sum_take hc.pos (j + 1)
          have h2 := hc.sum
          rw [hsm, ← sum_next ht, wrap_u64 (by omega)]
        refine mwp_skip ?_
        refine mwp_seq ?_
        refine mwp_block ?_   -- block 3
        refine mwp_region rfl ?_   -- region 20
        refine wOps_op rfl (op_move rfl rfl ?_)   -- t60 ← move tmp 8
        refine wOps_op rfl (op_move rfl rfl ?_)   -- t61 ← move tmp 3
        refine wOps_op rfl (op_move rfl rfl ?_)   -- t62 ← move tmp 9
        refine wOps_op rfl (op_indexAddr rfl Try.underlying33 sz45 (by decide) rfl rfl rfl (get_map ht) ?_)   -- t63 ← indexAddr 33 tmp 61 tmp 62
        refine wOps_op rfl (op_fieldAddr_sptr rfl rfl fo45_1 ?_)   -- t64 ← fieldAddr 45 tmp 63 1
        refine wOps_op rfl (op_load_sptr rfl rfl ta36 rfl ?_)   -- t65 ← load 36 tmp 64
        refine wOps_op rfl (op_arith rfl rfl rfl rfl ?_)   -- t66 ← binOp add 36 tmp 60 tmp 65 36
        refine wOps_op rfl (op_assign rfl rfl ?_)   -- t8 ← assign tmp 66
        refine wOps_nil ?_
        refine mwp_region rfl ?_   -- region 19
        refine wOps_op rfl (op_move rfl rfl ?_)   -- t58 ← move tmp 9
        refine wOps_op rfl (op_arith rfl rfl rfl rfl ?_)   -- t59 ← binOp add 3 tmp 58 const int i64 1 3
        refine wOps_op rfl (op_assign rfl rfl ?_)   -- t9 ← assign tmp 59
        refine wOps_nil ?_
        refine ⟨⟨j + 1, sumF (c.take (j + 1))⟩, by dsimp only; omega, ⟨by dsimp only; omega, rfl⟩, rfl, (.keep rfl (.keep rfl (.nil))), (.eq rfl (int_succ hlt2 (Nat.le_refl _)) (.eq rfl (by rw [hadd]) (.nil)))⟩
      · -- no
        have hgej : j = c.length := by simp at h57; omega
        have hfin : sm = (l.length : Int) := by rw [hsm, hgej, List.take_length, hc.sum, hge]
        refine mwp_exit ?_
        refine mwp_seq ?_
        refine mwp_region rfl ?_   -- region 21
        refine wOps_op rfl (op_move rfl rfl ?_)   -- t67 ← move tmp 8
        refine wOps_op rfl (op_move rfl rfl ?_)   -- t68 ← move tmp 0
        refine wOps_op rfl (op_len_lst rfl Try.underlying42 rfl ?_)   -- t69 ← call ('rec', {'callee': ('app', 'builtin', [('id', 'Go.Builtin.le
        refine wOps_op rfl (op_convInt rfl Try.underlying3 Try.underlying36 rfl (wrap_u64 (by simp; omega)) ?_)   -- t70 ← convert 3 36 tmp 69
        refine wOps_op rfl (op_cmp rfl rfl rfl rfl ?_)   -- t71 ← binOp eql 36 tmp 67 tmp 70 36
        refine wOps_op rfl (op_assign rfl rfl ?_)   -- t2 ← assign tmp 71
        refine wOps_nil ?_
        refine mwp_ret ?_
        exact ret_tmp (.inr rfl) Try.results6 rfl (.of_eq (by rw [hfin, List.length_map]; simp)) (.bool _) ⟨rfl, rfl⟩
end Go.Proofs.Ytiocekmiaediiaa
