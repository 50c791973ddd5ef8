/-
  Walks of a tape that may tear: its records one by one (layer 14).
-/
import Derived.Test.YtddcpfbmoahnpaaTapA
import Derived.Test.YtddcpfbmoahnpaaCel
set_option linter.unusedVariables false
set_option linter.unusedSimpArgs false
set_option maxHeartbeats 400000
namespace Go.MV
open Go Go.RowKit
def recY (p : Bs × Nat) : List MV := [.str (bs p.1), .int .i64 (p.2 : Int)]
theorem numGo_lt : ∀ (l : Bs) (a n i : Nat), n < a → a ≤ 12800000 → (numGo a n i l).1 < 2000000000 ∧ (numGo a n i l).2 ≤ i + l.length
  | [], a, n, i, _, _ => by simp [numGo]
  | c :: l, a, n, i, hn, ha => by
    have hm := Nat.mul_le_mul_right a (show c.toNat % 128 ≤ 127 by omega)
    rw [numGo]
    split
    · split
      · simp; omega
      · have := numGo_lt l (a * 128) (n + c.toNat % 128 * a) (i + 1) (by omega) (by omega)
        simp only [List.length_cons]
        omega
    · simp
theorem numF_lt (l : Bs) : (numF l).1 < 2000000000 ∧ (numF l).2 ≤ l.length := by
  have := numGo_lt l 1 0 0 (by omega) (by omega)
  unfold numF
  omega
theorem drop_nil_len {α : Type} {l : List α} {j : Nat} (h : [] = l.drop j) : l.length ≤ j := by
  have := congrArg List.length h
  simp at this
  omega
theorem drop_cons_get {α : Type} {l r : List α} {a : α} {j : Nat} (h : a :: r = l.drop j) : l[j]? = some a ∧ r = l.drop (j + 1) := by
  have h1 := congrArg (fun q => q[0]?) h
  have h2 := congrArg (List.drop 1) h
  simp only [List.getElem?_cons_zero, List.getElem?_drop, Nat.add_zero] at h1
  refine ⟨h1.symm, ?_⟩
  simpa [List.drop_drop] using h2
theorem recsS_nil {k off : Nat} : recsS k off [] = [] := by cases k <;> simp [recsS]
theorem recsS_stop {k off fr n : Nat} {b : Bs} (e : numF b = (n, fr)) (h : fr = 0 ∨ fr + n + 8 > b.length) : recsS k off b = [] := by
  cases k with
  | zero => rfl
  | succ k =>
    rw [recsS, e]
    dsimp only
    rw [if_pos h]
    split <;> rfl
theorem recsS_bad {k off fr n : Nat} {b : Bs} (e : numF b = (n, fr)) (h : ¬ laidB ((b.drop fr).take n) = b.take (fr + n + 8)) : recsS k off b = [] := by
  cases k with
  | zero => rfl
  | succ k =>
    rw [recsS, e]
    dsimp only
    rw [if_pos h]
    split
    · rfl
    · split <;> rfl
theorem recsS_good {k off fr n : Nat} {b : Bs} (hb : b ≠ []) (e : numF b = (n, fr)) (h1 : ¬ (fr = 0 ∨ fr + n + 8 > b.length)) (h : laidB ((b.drop fr).take n) = b.take (fr + n + 8)) : recsS (k + 1) off b = ((b.drop fr).take n, off + (fr + n + 8)) :: recsS k (off + (fr + n + 8)) (b.drop (fr + n + 8)) := by
  rw [recsS, e]
  dsimp only
  rw [if_neg hb, if_neg h1, if_neg (by simpa using h)]
end Go.MV
namespace Go.Proofs.Ytddcpfbmoahnpaa
open Go Go.MV


theorem records1_walk (b : Bs) (hlen : b.length ≤ 1000000) (bid id : Nat) (T : Nat → MS) (m l : Nat) (hok : ∀ j, (T j).length = l ∧ (T j)[bid]? = some (.cells [.str (bs b)])) (hm : m ≤ ((recsF b).map recY).length)
    (hyt : ∀ j y, j < m → ((recsF b).map recY)[j]? = some y → YStep Try.prog id y (T j) true (T (j + 1))) (hyf : ∀ j y, j = m → ((recsF b).map recY)[j]? = some y → YStep Try.prog id y (T j) false (T (j + 1))) :
    MCalls Try.prog 34 ([] ++ [.yld id] ++ [.ref bid 0]) (T 0) fun v σ' => v = .tup [] ∧ σ' = T (if m < ((recsF b).map recY).length then m + 1 else m) := by
  have hml : m ≤ (recsF b).length := by simpa using hm
  refine mcalls_body Try.func34 rfl Try.ntmps34 (Nat.le_of_ble_eq_true rfl) ?_
  rw [List.append_nil]
  show mwp _ _ _ _ _ _ _ (([] : MS) ++ T 0)
  refine mwp_seq ?_
  refine mwp_region rfl ?_   -- region 0
  refine wOps_op rfl (op_assign rfl rfl ?_)   -- t3 ← assign const int i64 0
  refine wOps_nil ?_
  refine mwp_block ?_   -- block 0
  refine mwp_loopK (α := Nat × Nat × Nat) [(0, _), (1, _)] (fun x => [(3, .int .i64 (x.2.1 : Int))]) (fun x => T x.1) (fun x => x.1 ≤ m ∧ x.2.1 ≤ b.length ∧ b.length - x.2.1 ≤ x.2.2 ∧ recsS x.2.2 x.2.1 (b.drop x.2.1) = (recsF b).drop x.1) (fun x => b.length - x.2.1) (⟨0, 0, b.length⟩) (.keep rfl (.keep rfl (.nil))) (.keep rfl (.nil)) (⟨by simp, by simp, by simp, rfl⟩) rfl ?_
  rintro ⟨j, off, k⟩ ⟨hj, hoff, hk, he⟩
  dsimp only at hj hoff hk he ⊢
  refine mwp_seq ?_
  refine mwp_seq ?_
  refine mwp_region rfl ?_   -- region 1
  refine wOps_op rfl (op_move rfl rfl ?_)   -- t8 ← move tmp 3
  refine wOps_op rfl (op_load_ref rfl rfl (hok _).2 ta9 rfl ?_)   -- t9 ← load 9 tmp 1
  refine wOps_op rfl (op_len_bs rfl Try.underlying9 rfl ?_)   -- t10 ← call ('rec', {'callee': ('app', 'builtin', [('id', 'Go.Builtin.le
  refine wOps_op rfl (op_cmp rfl rfl rfl rfl ?_)   -- t11 ← binOp lss 3 tmp 8 tmp 10 3
  refine wOps_nil ?_
  refine mwp_cond_split rfl (fun h11 => ?_) (fun h11 => ?_)   -- if t11
  · -- yes
    have hlt : off < b.length := by simpa using h11
    refine mwp_skip ?_
    refine mwp_block ?_   -- block 1
    refine mwp_seq ?_
    refine mwp_region rfl ?_   -- region 2
    refine wOps_op rfl (op_load_ref rfl rfl (hok _).2 ta9 rfl ?_)   -- t13 ← load 9 tmp 1
    refine wOps_op rfl (op_move rfl rfl ?_)   -- t14 ← move tmp 3
    refine wOps_op rfl (op_slice_str rfl Try.underlying9 rfl (.some rfl rfl) .none (by omega) (by omega) ?_)   -- t15 ← slice 9 tmp 13 some tmp 14 none none
    rw [List.take_of_length_le (by simp : (b.drop off).length ≤ b.length - off)]
    refine wOps_op rfl (op_call rfl rfl rfl co35 ((number_spec (b.drop off) (by simp; omega) _).mono ?_))   -- t16 ← call ('rec', {'callee': ('app', 'value', [('app', 'func', [35])])
    rintro _ _ ⟨rfl, rfl⟩
    have hlt2 := numF_lt (b.drop off)
    generalize hnf : numF (b.drop off) = nf at hlt2 ⊢
    obtain ⟨n, fr⟩ := nf
    dsimp only at hlt2 ⊢
    rw [List.length_drop] at hlt2
    refine wOps_op rfl (op_move rfl rfl ?_)   -- t12 ← move tmp 16
    refine wOps_op rfl (op_extract rfl rfl rfl ?_)   -- t17 ← extract tmp 12 0
    refine wOps_op rfl (op_extract rfl rfl rfl ?_)   -- t18 ← extract tmp 12 1
    refine wOps_op rfl (op_assign rfl rfl ?_)   -- t4 ← assign tmp 17
    refine wOps_op rfl (op_assign rfl rfl ?_)   -- t5 ← assign tmp 18
    refine wOps_nil ?_
    refine mwp_seq ?_
    refine mwp_region rfl ?_   -- region 3
    refine wOps_op rfl (op_move rfl rfl ?_)   -- t19 ← move tmp 3
    refine wOps_op rfl (op_move rfl rfl ?_)   -- t20 ← move tmp 5
    refine wOps_op rfl (op_arith rfl rfl rfl (wadd (a := off) (b := fr) rfl (by omega)) ?_)   -- t21 ← binOp add 3 tmp 19 tmp 20 3
    refine wOps_op rfl (op_move rfl rfl ?_)   -- t22 ← move tmp 4
    refine wOps_op rfl (op_arith rfl rfl rfl (wadd (a := off + fr) (b := n) rfl (by omega)) ?_)   -- t23 ← binOp add 3 tmp 21 tmp 22 3
    refine wOps_op rfl (op_arith rfl rfl rfl (wadd (a := off + fr + n) (b := 8) rfl (by omega)) ?_)   -- t24 ← binOp add 3 tmp 23 const int i64 8 3
    refine wOps_op rfl (op_assign rfl rfl ?_)   -- t6 ← assign tmp 24
    refine wOps_nil ?_
    refine mwp_seq ?_
    refine mwp_seq ?_
    refine mwp_region rfl ?_   -- region 4
    refine wOps_op rfl (op_move rfl rfl ?_)   -- t25 ← move tmp 5
    refine wOps_op rfl (op_cmp rfl rfl rfl rfl ?_)   -- t26 ← binOp eql 3 tmp 25 const int i64 0 3
    refine wOps_op rfl (op_move rfl rfl ?_)   -- t27 ← move tmp 26
    refine wOps_case (fun h27 => ?_) (fun h27 => ?_)
    ·
      have hN : recsS k off (b.drop off) = [] := recsS_stop hnf (.inl (by simp at h27; omega))
      refine wOps_skip rfl ?_
      refine wOps_skip rfl ?_
      refine wOps_skip rfl ?_
      refine wOps_skip rfl ?_
      refine wOps_op rfl (op_pick rfl rfl rfl ?_)   -- t32 ← pick tmp 27 const bool true tmp 31
      refine wOps_nil ?_
      refine mwp_cond_t rfl (rfl) ?_   -- if t32
      refine mwp_facts fun _ hcl => ?_
      refine mwp_ret ?_
      have hdl := drop_nil_len (hN.symm.trans he)
      have hjm : j = m := by omega
      exact ret_noneT (S' := T j) (by simp) Try.results34 (by rw [(hok _).1, (hok _).1]; exact Nat.le_refl _) hcl ⟨rfl, by rw [hjm, if_neg (by rw [List.length_map]; omega)]⟩
    ·
      have h0 : ¬ fr = 0 := by simp at h27; omega
      refine wOps_op rfl (op_move rfl rfl ?_)   -- t28 ← move tmp 6  GUARD
      refine wOps_op rfl (op_load_ref rfl rfl (hok _).2 ta9 rfl ?_)   -- t29 ← load 9 tmp 1  GUARD
      refine wOps_op rfl (op_len_bs rfl Try.underlying9 rfl ?_)   -- t30 ← call ('rec', {'callee': ('app', 'builtin', [('id', 'Go.Builtin.le  GUARD
      refine wOps_op rfl (op_cmp rfl rfl rfl rfl ?_)   -- t31 ← binOp gtr 3 tmp 28 tmp 30 3  GUARD
      refine wOps_op rfl (op_pick rfl rfl rfl ?_)   -- t32 ← pick tmp 27 const bool true tmp 31
      refine wOps_nil ?_
      refine mwp_cond_split rfl (fun h32 => ?_) (fun h32 => ?_)   -- if t32
      · -- yes
        have hN : recsS k off (b.drop off) = [] := recsS_stop hnf (.inr (by simp at h32; rw [List.length_drop]; omega))
        refine mwp_facts fun _ hcl => ?_
        refine mwp_ret ?_
        have hdl := drop_nil_len (hN.symm.trans he)
        have hjm : j = m := by omega
        exact ret_noneT (S' := T j) (by simp) Try.results34 (by rw [(hok _).1, (hok _).1]; exact Nat.le_refl _) hcl ⟨rfl, by rw [hjm, if_neg (by rw [List.length_map]; omega)]⟩
      · -- no
        have hle : off + fr + n + 8 ≤ b.length := by simp at h32; omega
        obtain ⟨r, hr⟩ : ∃ r, r = ((b.drop off).drop fr).take n := ⟨_, rfl⟩
        have hrl : r.length ≤ 1000000 := by rw [hr, List.length_take]; simp; omega
        refine mwp_skip ?_
        refine mwp_seq ?_
        refine mwp_region rfl ?_   -- region 5
        refine wOps_op rfl (op_load_ref rfl rfl (hok _).2 ta9 rfl ?_)   -- t33 ← load 9 tmp 1
        refine wOps_op rfl (op_move rfl rfl ?_)   -- t34 ← move tmp 3
        refine wOps_op rfl (op_move rfl rfl ?_)   -- t35 ← move tmp 5
        refine wOps_op rfl (op_arith rfl rfl rfl (wadd (a := off) (b := fr) rfl (by omega)) ?_)   -- t36 ← binOp add 3 tmp 34 tmp 35 3
        refine wOps_op rfl (op_move rfl rfl ?_)   -- t37 ← move tmp 3
        refine wOps_op rfl (op_move rfl rfl ?_)   -- t38 ← move tmp 5
        refine wOps_op rfl (op_arith rfl rfl rfl (wadd (a := off) (b := fr) rfl (by omega)) ?_)   -- t39 ← binOp add 3 tmp 37 tmp 38 3
        refine wOps_op rfl (op_move rfl rfl ?_)   -- t40 ← move tmp 4
        refine wOps_op rfl (op_arith rfl rfl rfl (wadd (a := off + fr) (b := n) rfl (by omega)) ?_)   -- t41 ← binOp add 3 tmp 39 tmp 40 3
        refine wOps_op rfl (op_slice_str rfl Try.underlying9 rfl (.some rfl rfl) (.some rfl rfl) (by omega) (by omega) ?_)   -- t42 ← slice 9 tmp 33 some tmp 36 some tmp 41 none
        rw [show (b.drop (off + fr)).take (off + fr + n - (off + fr)) = r by rw [hr, List.drop_drop, Nat.add_sub_cancel_left]]
        refine wOps_op rfl (op_assign rfl rfl ?_)   -- t7 ← assign tmp 42
        refine wOps_nil ?_
        refine mwp_seq ?_
        refine mwp_seq ?_
        rcases three (p := laidB r = (b.drop off).take (off + fr + n + 8 - off)) hj with hL | ⟨hL, hjm⟩ | ⟨hL, hjm⟩
        ·
          have hN : recsS k off (b.drop off) = [] := recsS_bad hnf (by rw [← hr, show fr + n + 8 = off + fr + n + 8 - off by omega]; exact hL)
          refine mwp_draw [] [_] mo (by decide) rfl rfl rfl rfl ?_   -- region 6
          refine dOps_op rfl rfl (.cons (op_move rfl rfl ⟨rfl, rfl⟩) .nil) ?_   -- t43 ← move tmp 7
          refine dOps_op rfl rfl (.cons (op_call rfl rfl rfl co24 (laid_spec r hrl _)) .nil) ?_   -- t44 ← call ('rec', {'callee': ('app', 'value', [('app', 'func', [24])])
          refine dOps_op rfl rfl (.cons (op_load_ref rfl rfl (hok _).2 ta9 rfl ⟨rfl, rfl⟩) .nil) ?_   -- t45 ← load 9 tmp 1
          refine dOps_op rfl rfl (.cons (op_move rfl rfl ⟨rfl, rfl⟩) .nil) ?_   -- t46 ← move tmp 3
          refine dOps_op rfl rfl (.cons (op_move rfl rfl ⟨rfl, rfl⟩) .nil) ?_   -- t47 ← move tmp 6
          refine dOps_op rfl rfl (.cons (op_slice_str rfl Try.underlying9 rfl (.some rfl rfl) (.some rfl rfl) (by omega) (by omega) ⟨rfl, rfl⟩) .nil) ?_   -- t48 ← slice 9 tmp 45 some tmp 46 some tmp 47 none
          refine dOps_op rfl rfl (.cons (op_strcmp rfl rfl rfl (strNe hL) ⟨rfl, rfl⟩) .nil) ?_   -- t49 ← binOp neq 9 tmp 44 tmp 48 9
          refine dOps_op rfl rfl (.cons (op_move rfl rfl ⟨rfl, rfl⟩) .nil) ?_   -- t50 ← move tmp 49
          refine dOps_skip rfl rfl ?_
          refine dOps_skip rfl rfl ?_
          refine dOps_skip rfl rfl ?_
          refine dOps_skip rfl rfl ?_
          refine dOps_skip rfl rfl ?_
          refine dOps_op rfl rfl (.cons (op_pick rfl rfl rfl ⟨rfl, rfl⟩) .nil) ?_   -- t56 ← pick tmp 50 const bool true tmp 55
          refine dOps_nil ?_
          refine mwp_cond_t rfl (rfl) ?_   -- if t56
          refine mwp_facts fun _ hcl => ?_
          refine mwp_ret ?_
          have hdl := drop_nil_len (hN.symm.trans he)
          have hjm : j = m := by omega
          exact ret_noneT (S' := T j) (by simp) Try.results34 (by rw [(hok _).1, (hok _).1]; exact Nat.le_refl _) hcl ⟨rfl, by rw [hjm, if_neg (by rw [List.length_map]; omega)]⟩
        ·
          have hnext : recsS (k - 1) (off + fr + n + 8) (b.drop (off + fr + n + 8)) = (recsF b).drop (j + 1) ∧ (recsF b)[j]? = some (r, off + fr + n + 8) := by
            obtain ⟨k, rfl⟩ : ∃ q, k = q + 1 := ⟨k - 1, by omega⟩
            rw [recsS_good (fun h => by have := congrArg List.length h; simp at this; omega) hnf (by rw [List.length_drop]; omega) (by rw [← hr, show fr + n + 8 = off + fr + n + 8 - off by omega]; exact hL), ← hr, List.drop_drop, show off + (fr + n + 8) = off + fr + n + 8 by omega] at he
            have := drop_cons_get he
            exact ⟨this.2, this.1⟩
          obtain ⟨hnext, hy⟩ := hnext
          replace hy : ((recsF b).map recY)[j]? = some [.str (bs r), .int .i64 ((off + fr + n + 8 : Nat) : Int)] := by rw [List.getElem?_map, hy]; rfl
          have hjl := (List.getElem?_eq_some_iff.1 hy).1
          refine mwp_draw [11] [_, T (j + 1)] mo (by decide) rfl rfl rfl rfl ?_   -- region 6
          refine dOps_op rfl rfl (.cons (op_move rfl rfl ⟨rfl, rfl⟩) (.cons (op_move rfl rfl ⟨rfl, rfl⟩) (.nil))) ?_   -- t43 ← move tmp 7
          refine dOps_op rfl rfl (.cons (op_call rfl rfl rfl co24 (laid_spec r hrl _)) (.cons (op_call rfl rfl rfl co24 (laid_spec r hrl _)) (.nil))) ?_   -- t44 ← call ('rec', {'callee': ('app', 'value', [('app', 'func', [24])])
          refine dOps_op rfl rfl (.cons (op_load_ref rfl rfl (hok _).2 ta9 rfl ⟨rfl, rfl⟩) (.cons (op_load_ref rfl rfl (hok _).2 ta9 rfl ⟨rfl, rfl⟩) (.nil))) ?_   -- t45 ← load 9 tmp 1
          refine dOps_op rfl rfl (.cons (op_move rfl rfl ⟨rfl, rfl⟩) (.cons (op_move rfl rfl ⟨rfl, rfl⟩) (.nil))) ?_   -- t46 ← move tmp 3
          refine dOps_op rfl rfl (.cons (op_move rfl rfl ⟨rfl, rfl⟩) (.cons (op_move rfl rfl ⟨rfl, rfl⟩) (.nil))) ?_   -- t47 ← move tmp 6
          refine dOps_op rfl rfl (.cons (op_slice_str rfl Try.underlying9 rfl (.some rfl rfl) (.some rfl rfl) (by omega) (by omega) ⟨rfl, rfl⟩) (.cons (op_slice_str rfl Try.underlying9 rfl (.some rfl rfl) (.some rfl rfl) (by omega) (by omega) ⟨rfl, rfl⟩) (.nil))) ?_   -- t48 ← slice 9 tmp 45 some tmp 46 some tmp 47 none
          refine dOps_op rfl rfl (.cons (op_strcmp rfl rfl rfl (strNe' hL) ⟨rfl, rfl⟩) (.cons (op_strcmp rfl rfl rfl (strNe' hL) ⟨rfl, rfl⟩) (.nil))) ?_   -- t49 ← binOp neq 9 tmp 44 tmp 48 9
          refine dOps_op rfl rfl (.cons (op_move rfl rfl ⟨rfl, rfl⟩) .nil) ?_   -- t50 ← move tmp 49
          refine dOps_op rfl rfl (.cons (op_move rfl rfl ⟨rfl, rfl⟩) .nil) ?_   -- t51 ← move tmp 0  GUARD
          refine dOps_op rfl rfl (.cons (op_move rfl rfl ⟨rfl, rfl⟩) .nil) ?_   -- t52 ← move tmp 7  GUARD
          refine dOps_op rfl rfl (.cons (op_move rfl rfl ⟨rfl, rfl⟩) .nil) ?_   -- t53 ← move tmp 6  GUARD
          refine dOps_eff rfl rfl rfl rfl ((hyt j _ hjm hy).at0 rfl rfl rfl) ?_   -- t54 ← call ('rec', {'callee': ('app', 'value', [('app', 'tmp', [51])]),  GUARD
          refine dOps_op rfl rfl (.cons (op_not rfl rfl ⟨rfl, rfl⟩) .nil) ?_   -- t55 ← unOp not 4 tmp 54  GUARD
          refine dOps_op rfl rfl (.cons (op_pick rfl rfl rfl ⟨rfl, rfl⟩) (.cons (op_pick rfl rfl rfl ⟨rfl, rfl⟩) (.nil))) ?_   -- t56 ← pick tmp 50 const bool true tmp 55
          refine dOps_nil ?_
          refine mwp_cond_f rfl (rfl) ?_   -- if t56
          refine mwp_skip ?_
          refine mwp_region rfl ?_   -- region 7
          refine wOps_op rfl (op_move rfl rfl ?_)   -- t57 ← move tmp 6
          refine wOps_op rfl (op_assign rfl rfl ?_)   -- t3 ← assign tmp 57
          refine wOps_nil ?_
          refine ⟨⟨j + 1, off + fr + n + 8, k - 1⟩, by dsimp only; omega, ⟨by dsimp only; omega, by dsimp only; omega, by dsimp only; omega, hnext⟩, rfl, (.keep rfl (.keep rfl (.nil))), (.eq rfl (rfl) (.nil))⟩
        ·
          have hnext : recsS (k - 1) (off + fr + n + 8) (b.drop (off + fr + n + 8)) = (recsF b).drop (j + 1) ∧ (recsF b)[j]? = some (r, off + fr + n + 8) := by
            obtain ⟨k, rfl⟩ : ∃ q, k = q + 1 := ⟨k - 1, by omega⟩
            rw [recsS_good (fun h => by have := congrArg List.length h; simp at this; omega) hnf (by rw [List.length_drop]; omega) (by rw [← hr, show fr + n + 8 = off + fr + n + 8 - off by omega]; exact hL), ← hr, List.drop_drop, show off + (fr + n + 8) = off + fr + n + 8 by omega] at he
            have := drop_cons_get he
            exact ⟨this.2, this.1⟩
          obtain ⟨hnext, hy⟩ := hnext
          replace hy : ((recsF b).map recY)[j]? = some [.str (bs r), .int .i64 ((off + fr + n + 8 : Nat) : Int)] := by rw [List.getElem?_map, hy]; rfl
          have hjl := (List.getElem?_eq_some_iff.1 hy).1
          refine mwp_draw [11] [_, T (j + 1)] mo (by decide) rfl rfl rfl rfl ?_   -- region 6
          refine dOps_op rfl rfl (.cons (op_move rfl rfl ⟨rfl, rfl⟩) (.cons (op_move rfl rfl ⟨rfl, rfl⟩) (.nil))) ?_   -- t43 ← move tmp 7
          refine dOps_op rfl rfl (.cons (op_call rfl rfl rfl co24 (laid_spec r hrl _)) (.cons (op_call rfl rfl rfl co24 (laid_spec r hrl _)) (.nil))) ?_   -- t44 ← call ('rec', {'callee': ('app', 'value', [('app', 'func', [24])])
          refine dOps_op rfl rfl (.cons (op_load_ref rfl rfl (hok _).2 ta9 rfl ⟨rfl, rfl⟩) (.cons (op_load_ref rfl rfl (hok _).2 ta9 rfl ⟨rfl, rfl⟩) (.nil))) ?_   -- t45 ← load 9 tmp 1
          refine dOps_op rfl rfl (.cons (op_move rfl rfl ⟨rfl, rfl⟩) (.cons (op_move rfl rfl ⟨rfl, rfl⟩) (.nil))) ?_   -- t46 ← move tmp 3
          refine dOps_op rfl rfl (.cons (op_move rfl rfl ⟨rfl, rfl⟩) (.cons (op_move rfl rfl ⟨rfl, rfl⟩) (.nil))) ?_   -- t47 ← move tmp 6
          refine dOps_op rfl rfl (.cons (op_slice_str rfl Try.underlying9 rfl (.some rfl rfl) (.some rfl rfl) (by omega) (by omega) ⟨rfl, rfl⟩) (.cons (op_slice_str rfl Try.underlying9 rfl (.some rfl rfl) (.some rfl rfl) (by omega) (by omega) ⟨rfl, rfl⟩) (.nil))) ?_   -- t48 ← slice 9 tmp 45 some tmp 46 some tmp 47 none
          refine dOps_op rfl rfl (.cons (op_strcmp rfl rfl rfl (strNe' hL) ⟨rfl, rfl⟩) (.cons (op_strcmp rfl rfl rfl (strNe' hL) ⟨rfl, rfl⟩) (.nil))) ?_   -- t49 ← binOp neq 9 tmp 44 tmp 48 9
          refine dOps_op rfl rfl (.cons (op_move rfl rfl ⟨rfl, rfl⟩) .nil) ?_   -- t50 ← move tmp 49
          refine dOps_op rfl rfl (.cons (op_move rfl rfl ⟨rfl, rfl⟩) .nil) ?_   -- t51 ← move tmp 0  GUARD
          refine dOps_op rfl rfl (.cons (op_move rfl rfl ⟨rfl, rfl⟩) .nil) ?_   -- t52 ← move tmp 7  GUARD
          refine dOps_op rfl rfl (.cons (op_move rfl rfl ⟨rfl, rfl⟩) .nil) ?_   -- t53 ← move tmp 6  GUARD
          refine dOps_eff rfl rfl rfl rfl ((hyf j _ hjm hy).at0 rfl rfl rfl) ?_   -- t54 ← call ('rec', {'callee': ('app', 'value', [('app', 'tmp', [51])]),  GUARD
          refine dOps_op rfl rfl (.cons (op_not rfl rfl ⟨rfl, rfl⟩) .nil) ?_   -- t55 ← unOp not 4 tmp 54  GUARD
          refine dOps_op rfl rfl (.cons (op_pick rfl rfl rfl ⟨rfl, rfl⟩) (.cons (op_pick rfl rfl rfl ⟨rfl, rfl⟩) (.nil))) ?_   -- t56 ← pick tmp 50 const bool true tmp 55
          refine dOps_nil ?_
          refine mwp_cond_t rfl (rfl) ?_   -- if t56
          refine mwp_facts fun _ hcl => ?_
          refine mwp_ret ?_
          exact ret_noneT (S' := T (j + 1)) (by simp) Try.results34 (by rw [(hok _).1, (hok _).1]; exact Nat.le_refl _) hcl ⟨rfl, by rw [hjm, if_pos (by omega)]⟩
  · -- no
    refine mwp_facts fun _ hcl => ?_
    have hge : b.length = off := by simp at h11; omega
    have hN : recsS k off (b.drop off) = [] := by rw [← hge, List.drop_length, recsS_nil]
    refine mwp_exit ?_
    have hdl := drop_nil_len (hN.symm.trans he)
    have hjm : j = m := by omega
    exact ret_noneT (S' := T j) (by simp) Try.results34 (by rw [(hok _).1, (hok _).1]; exact Nat.le_refl _) hcl ⟨rfl, by rw [hjm, if_neg (by rw [List.length_map]; omega)]⟩


theorem records_iter (b : Bs) (hlen : b.length ≤ 1000000) (bid l : Nat) : IterOk Try.prog 34 [] [.ref bid 0] ((recsF b).map recY) (fun σ => σ.length = l ∧ σ[bid]? = some (.cells [.str (bs b)])) := by
  intro id T m hok hyt
  refine ⟨fun hm => ?_, fun y hy hyf => ?_⟩
  · refine (records1_walk b hlen bid id T m l hok (by omega) hyt (fun j y hj hy => ?_)).mono ?_
    · have := (List.getElem?_eq_some_iff.1 hy).1; omega
    · rintro v σ' ⟨_, h⟩
      rw [h, if_neg (by omega)]
  · have hm := (List.getElem?_eq_some_iff.1 hy).1
    refine (records1_walk b hlen bid id T m l hok (by omega) hyt (fun j z hj hz => ?_)).mono ?_
    · subst hj
      rw [hy] at hz
      injection hz with hz
      subst hz
      exact hyf
    · rintro v σ' ⟨_, h⟩
      rw [h, if_pos hm]
def tapeO (b : Bs) (k : Nat) : MObj := .cells [.str (bs b), .int .i64 (k : Int)]
theorem tape_cl (n : Nat) (b : Bs) (k : Nat) : (tapeO b k).cl n := fun x hx => by
  rcases List.mem_cons.1 hx with rfl | hx
  · exact .str _
  · rcases List.mem_cons.1 hx with rfl | hx
    · exact .int _ _
    · cases hx
def endJ (l : List (Bs × Nat)) (j : Nat) : Nat := ((l.take j).map (·.2)).getLastD 0
theorem recsS_end : ∀ (k off : Nat) (b : Bs), ∀ p ∈ recsS k off b, p.2 ≤ off + b.length
  | 0, off, b => by simp [recsS]
  | k + 1, off, b => by
    intro p hp
    rw [recsS] at hp
    dsimp only at hp
    split at hp
    · cases hp
    · split at hp
      · cases hp
      · split at hp
        · cases hp
        · rename_i h1 h2 h3
          rcases List.mem_cons.1 hp with rfl | hp
          · dsimp only; omega
          · have := recsS_end k _ _ p hp
            rw [List.length_drop] at this
            omega
theorem endJ_le (c : Bs) : endJ (recsF c) (recsF c).length ≤ c.length := by
  unfold endJ
  rw [List.take_length]
  cases hl : ((recsF c).map (·.2)).getLast? with
  | none => rw [List.getLastD_eq_getLast?, hl]; simp
  | some x =>
    rw [List.getLastD_eq_getLast?, hl]
    obtain ⟨p, hp, rfl⟩ := List.mem_map.1 (List.mem_of_getLast? hl)
    have := recsS_end _ _ _ p hp
    simpa using this
theorem max0 (n : Int) : (if (0 : Int) > n then 0 else n) = ((n.toNat : Nat) : Int) := by split <;> omega
theorem min_nat (a b : Nat) : (if (b : Int) < (a : Int) then (b : Int) else (a : Int)) = ((min a b : Nat) : Int) := by split <;> omega
theorem get_box {A R : MS} {x x' y : MObj} : ((A ++ [x, y]) ++ R)[(A ++ [x']).length]? = some y := by rw [List.length_append, List.append_assoc, getElem?_own]; rfl
theorem get_box3 {A R : MS} {x x' y z : MObj} : ((A ++ [x, y, z]) ++ R)[(A ++ [x']).length]? = some y := by rw [List.length_append, List.append_assoc, getElem?_own]; rfl
theorem get_own_set {A R : MS} {i k : Nat} {y o : MObj} (h : R[k]? = some o) : (A.set i y ++ R)[A.length + k]? = some o := by
  have := getElem?_own (A.set i y) R k
  rw [List.length_set] at this
  rw [this]; exact h
theorem endJ_succ {l : List (Bs × Nat)} {j : Nat} {p : Bs × Nat} (h : l[j]? = some p) : endJ l (j + 1) = p.2 := by
  unfold endJ
  rw [List.take_add_one, h]
  simp


theorem records_spec (b : Bs) (S : MS) : MCalls Try.prog 23 [.str (bs b)] S fun v σ' => v = .fn (.func 34) [] [.ref S.length 0] ∧ σ' = S ++ [.cells [.str (bs b)]] := by
  refine mcalls_body Try.func23 rfl Try.ntmps23 (Nat.le_of_ble_eq_true rfl) ?_
  refine mwp_seq ?_
  refine mwp_region rfl ?_   -- region 0
  refine wOps_op rfl (op_box' rfl rfl rfl rfl ?_)   -- t1 ← box 9 tmp 0
  refine wOps_op rfl (op_assign rfl rfl ?_)   -- t2 ← assign const nilFunc
  refine wOps_nil ?_
  refine mwp_seq ?_
  refine mwp_region rfl ?_   -- region 1
  refine wOps_op rfl (op_makeFunc rfl rfl rfl ?_)   -- t3 ← makeFunc func 34 [] [tmp 1]
  refine wOps_op rfl (op_assign rfl rfl ?_)   -- t2 ← assign tmp 3
  refine wOps_nil ?_
  refine mwp_facts fun hcv hcl => ?_
  refine mwp_ret ?_
  exact ret_tmpT (.inr rfl) Try.results23 rfl (.refl _) (hcv 2 _ rfl) (by simp) hcl ⟨rfl, rfl⟩

theorem new_spec (S : MS) : MCalls Try.prog 8 [] S fun v σ' => v = .ref S.length 0 ∧ σ' = S ++ [tapeO [] 0] := by
  refine mcalls_body Try.func8 rfl Try.ntmps8 (Nat.le_of_ble_eq_true rfl) ?_
  refine mwp_seq ?_
  refine mwp_region rfl ?_   -- region 0
  refine wOps_op rfl (op_assign rfl rfl ?_)   -- t0 ← assign const pointer none
  refine wOps_nil ?_
  refine mwp_seq ?_
  refine mwp_region rfl ?_   -- region 1
  refine wOps_op rfl (op_build rfl Try.underlying47 zm47 .nil (by kernel_rfl) ?_)   -- t1 ← build 47 []
  refine wOps_op rfl (op_box' rfl rfl rfl rfl ?_)   -- t2 ← box 47 tmp 1
  refine wOps_op rfl (op_assign rfl rfl ?_)   -- t0 ← assign tmp 2
  refine wOps_nil ?_
  refine mwp_facts fun hcv hcl => ?_
  refine mwp_ret ?_
  exact ret_tmpT (.inr rfl) Try.results8 rfl (.refl _) (hcv 0 _ rfl) (by simp) hcl ⟨rfl, rfl⟩

theorem sync_spec (id : Nat) (b : Bs) (k : Nat) (S : MS) (h : S[id]? = some (tapeO b k)) : MCalls Try.prog 10 [.ref id 0] S fun v σ' => v = .tup [] ∧ σ' = S.set id (tapeO b b.length) := by
  refine mcalls_body Try.func10 rfl Try.ntmps10 (Nat.le_of_ble_eq_true rfl) ?_
  refine mwp_facts fun _ hcl => ?_
  rw [List.append_nil] at hcl
  refine mwp_region rfl ?_   -- region 0
  refine wOps_op rfl (op_move rfl rfl ?_)   -- t2 ← move tmp 0
  refine wOps_op rfl (op_move rfl rfl ?_)   -- t3 ← move tmp 0
  refine wOps_op rfl (op_nilCheck rfl rfl rfl ?_)   -- t4 ← nilCheck tmp 3
  refine wOps_op rfl (op_fieldAddr_ref rfl rfl fo47_0 ?_)   -- t5 ← fieldAddr 47 tmp 4 0
  refine wOps_op rfl (op_load_far rfl rfl h ta9 rfl ?_)   -- t6 ← load 9 tmp 5
  refine wOps_op rfl (op_len_bs rfl Try.underlying9 rfl ?_)   -- t7 ← call ('rec', {'callee': ('app', 'builtin', [('id', 'Go.Builtin.le
  refine wOps_op rfl (op_nilCheck rfl rfl rfl ?_)   -- t8 ← nilCheck tmp 2
  refine wOps_op rfl (op_fieldAddr_ref rfl rfl fo47_1 ?_)   -- t9 ← fieldAddr 47 tmp 8 1
  refine wOps_op rfl (op_store_far rfl rfl rfl h sz3 rfl rfl (Nat.le_of_ble_eq_true rfl) ?_)   -- store 3 tmp 9 tmp 7
  refine wOps_nil ?_
  exact ret_noneS (by simp) Try.results10 (by simp) (hcl.set (tape_cl _ _ _)) ⟨rfl, rfl⟩

theorem loose_spec (id : Nat) (b : Bs) (k : Nat) (S : MS) (h : S[id]? = some (tapeO b k)) (hk : k ≤ b.length) (hb : b.length ≤ 1000000) : MCalls Try.prog 14 [.ref id 0] S fun v σ' => v = .int .i64 ((b.length - k : Nat) : Int) ∧ σ' = S := by
  refine mcalls_body Try.func14 rfl Try.ntmps14 (Nat.le_of_ble_eq_true rfl) ?_
  refine mwp_seq ?_
  refine mwp_region rfl ?_   -- region 0
  refine wOps_op rfl (op_assign rfl rfl ?_)   -- t2 ← assign const int i64 0
  refine wOps_nil ?_
  refine mwp_seq ?_
  refine mwp_draw [] [_] mo (by decide) rfl rfl rfl rfl ?_   -- region 1
  refine dOps_op rfl rfl (.cons (op_move rfl rfl ⟨rfl, rfl⟩) .nil) ?_   -- t3 ← move tmp 0
  refine dOps_op rfl rfl (.cons (op_nilCheck rfl rfl rfl ⟨rfl, rfl⟩) .nil) ?_   -- t4 ← nilCheck tmp 3
  refine dOps_op rfl rfl (.cons (op_fieldAddr_ref rfl rfl fo47_0 ⟨rfl, rfl⟩) .nil) ?_   -- t5 ← fieldAddr 47 tmp 4 0
  refine dOps_op rfl rfl (.cons (op_load_far rfl rfl h ta9 rfl ⟨rfl, rfl⟩) .nil) ?_   -- t6 ← load 9 tmp 5
  refine dOps_op rfl rfl (.cons (op_len_bs rfl Try.underlying9 rfl ⟨rfl, rfl⟩) .nil) ?_   -- t7 ← call ('rec', {'callee': ('app', 'builtin', [('id', 'Go.Builtin.le
  refine dOps_op rfl rfl (.cons (op_move rfl rfl ⟨rfl, rfl⟩) .nil) ?_   -- t8 ← move tmp 0
  refine dOps_op rfl rfl (.cons (op_nilCheck rfl rfl rfl ⟨rfl, rfl⟩) .nil) ?_   -- t9 ← nilCheck tmp 8
  refine dOps_op rfl rfl (.cons (op_fieldAddr_ref rfl rfl fo47_1 ⟨rfl, rfl⟩) .nil) ?_   -- t10 ← fieldAddr 47 tmp 9 1
  refine dOps_op rfl rfl (.cons (op_load_far rfl rfl h ta3 rfl ⟨rfl, rfl⟩) .nil) ?_   -- t11 ← load 3 tmp 10
  refine dOps_op rfl rfl (.cons (op_arith rfl rfl rfl (wsub (a := b.length) (b := k) (c := b.length - k) (by omega) (by omega)) ⟨rfl, rfl⟩) .nil) ?_   -- t12 ← binOp sub 3 tmp 7 tmp 11 3
  refine dOps_op rfl rfl (.cons (op_assign rfl rfl ⟨rfl, rfl⟩) .nil) ?_   -- t2 ← assign tmp 12
  refine dOps_nil ?_
  refine mwp_ret ?_
  exact ret_tmp (.inr rfl) Try.results14 rfl (.refl _) (.int _ _) ⟨rfl, rfl⟩

theorem len_spec (id : Nat) (b : Bs) (k : Nat) (S : MS) (h : S[id]? = some (tapeO b k)) : MCalls Try.prog 21 [.ref id 0] S fun v σ' => v = .int .i64 (b.length : Int) ∧ σ' = S := by
  refine mcalls_body Try.func21 rfl Try.ntmps21 (Nat.le_of_ble_eq_true rfl) ?_
  refine mwp_seq ?_
  refine mwp_region rfl ?_   -- region 0
  refine wOps_op rfl (op_assign rfl rfl ?_)   -- t2 ← assign const int i64 0
  refine wOps_nil ?_
  refine mwp_seq ?_
  refine mwp_region rfl ?_   -- region 1
  refine wOps_op rfl (op_move rfl rfl ?_)   -- t3 ← move tmp 0
  refine wOps_op rfl (op_nilCheck rfl rfl rfl ?_)   -- t4 ← nilCheck tmp 3
  refine wOps_op rfl (op_fieldAddr_ref rfl rfl fo47_0 ?_)   -- t5 ← fieldAddr 47 tmp 4 0
  refine wOps_op rfl (op_load_far rfl rfl h ta9 rfl ?_)   -- t6 ← load 9 tmp 5
  refine wOps_op rfl (op_len_bs rfl Try.underlying9 rfl ?_)   -- t7 ← call ('rec', {'callee': ('app', 'builtin', [('id', 'Go.Builtin.le
  refine wOps_op rfl (op_assign rfl rfl ?_)   -- t2 ← assign tmp 7
  refine wOps_nil ?_
  refine mwp_ret ?_
  exact ret_tmp (.inr rfl) Try.results21 rfl (.refl _) (.int _ _) ⟨rfl, rfl⟩

theorem add_spec (id : Nat) (b : Bs) (k : Nat) (S : MS) (h : S[id]? = some (tapeO b k)) (hb : b.length ≤ 1000000) (r : Bs) (hr : r.length ≤ 1000000) (hfit : b.length + (laidB r).length ≤ 100000) : MCalls Try.prog 15 [.ref id 0, .str (bs r)] S fun v σ' => v = .iface0 ∧ σ' = S.set id (tapeO (b ++ laidB r) k) := by
  refine mcalls_body Try.func15 rfl Try.ntmps15 (Nat.le_of_ble_eq_true rfl) ?_
  have hll := laidB_len r
  have hnl := numB_len (show r.length < 2097152 by omega)
  refine mwp_facts fun _ hcl => ?_
  rw [List.append_nil] at hcl
  refine mwp_seq ?_
  refine mwp_region rfl ?_   -- region 0
  refine wOps_op rfl (op_assign rfl rfl ?_)   -- t4 ← assign const nilIface
  refine wOps_nil ?_
  refine mwp_seq ?_
  refine mwp_draw [] [_] mo (by decide) rfl rfl rfl rfl ?_   -- region 1
  refine dOps_op rfl rfl (.cons (op_move rfl rfl ⟨rfl, rfl⟩) .nil) ?_   -- t6 ← move tmp 0
  refine dOps_op rfl rfl (.cons (op_nilCheck rfl rfl rfl ⟨rfl, rfl⟩) .nil) ?_   -- t7 ← nilCheck tmp 6
  refine dOps_op rfl rfl (.cons (op_fieldAddr_ref rfl rfl fo47_0 ⟨rfl, rfl⟩) .nil) ?_   -- t8 ← fieldAddr 47 tmp 7 0
  refine dOps_op rfl rfl (.cons (op_load_far rfl rfl h ta9 rfl ⟨rfl, rfl⟩) .nil) ?_   -- t9 ← load 9 tmp 8
  refine dOps_op rfl rfl (.cons (op_move rfl rfl ⟨rfl, rfl⟩) .nil) ?_   -- t10 ← move tmp 1
  refine dOps_op rfl rfl (.cons (op_call rfl rfl rfl co24 (laid_spec r hr _)) .nil) ?_   -- t11 ← call ('rec', {'callee': ('app', 'value', [('app', 'func', [24])])
  refine dOps_op rfl rfl (.cons (op_strcat rfl rfl rfl (by omega) ⟨rfl, rfl⟩) .nil) ?_   -- t12 ← binOp add 9 tmp 9 tmp 11 9
  refine dOps_op rfl rfl (.cons (op_assign rfl rfl ⟨rfl, rfl⟩) .nil) ?_   -- t5 ← assign tmp 12
  refine dOps_nil ?_
  refine mwp_seq ?_
  refine mwp_seq ?_
  refine mwp_region rfl ?_   -- region 2
  refine wOps_op rfl (op_move rfl rfl ?_)   -- t13 ← move tmp 5
  refine wOps_op rfl (op_len_bs rfl Try.underlying9 rfl ?_)   -- t14 ← call ('rec', {'callee': ('app', 'builtin', [('id', 'Go.Builtin.le
  refine wOps_op rfl (op_cmp rfl rfl rfl rfl ?_)   -- t15 ← binOp gtr 3 tmp 14 const int i64 100000 3
  refine wOps_nil ?_
  refine mwp_cond_f rfl (by simp; omega) ?_   -- if t15
  refine mwp_skip ?_
  refine mwp_seq ?_
  refine mwp_region rfl ?_   -- region 4
  refine wOps_op rfl (op_move rfl rfl ?_)   -- t17 ← move tmp 0
  refine wOps_op rfl (op_move rfl rfl ?_)   -- t18 ← move tmp 5
  refine wOps_op rfl (op_nilCheck rfl rfl rfl ?_)   -- t19 ← nilCheck tmp 17
  refine wOps_op rfl (op_fieldAddr_ref rfl rfl fo47_0 ?_)   -- t20 ← fieldAddr 47 tmp 19 0
  refine wOps_op rfl (op_store_far rfl rfl rfl h sz9 rfl rfl (Nat.le_of_ble_eq_true rfl) ?_)   -- store 9 tmp 20 tmp 18
  refine wOps_nil ?_
  refine mwp_seq ?_
  refine mwp_region rfl ?_   -- region 5
  refine wOps_op rfl (op_assign rfl rfl ?_)   -- t4 ← assign const nilIface
  refine wOps_nil ?_
  refine mwp_ret ?_
  exact ret_tmpS (.inr rfl) Try.results15 rfl (.refl _) .iface0 (by simp) (hcl.set (tape_cl _ _ _)) ⟨rfl, rfl⟩

theorem addFull_spec (id : Nat) (b : Bs) (k : Nat) (S : MS) (h : S[id]? = some (tapeO b k)) (hb : b.length ≤ 1000000) (r : Bs) (hr : r.length ≤ 1000000) (hfit : ¬ b.length + (laidB r).length ≤ 100000) : MCalls Try.prog 15 [.ref id 0, .str (bs r)] S fun v σ' => v = .iface 45 (.int .i64 15) ∧ σ' = S := by
  refine mcalls_body Try.func15 rfl Try.ntmps15 (Nat.le_of_ble_eq_true rfl) ?_
  have hll := laidB_len r
  have hnl := numB_len (show r.length < 2097152 by omega)
  refine mwp_seq ?_
  refine mwp_region rfl ?_   -- region 0
  refine wOps_op rfl (op_assign rfl rfl ?_)   -- t4 ← assign const nilIface
  refine wOps_nil ?_
  refine mwp_seq ?_
  refine mwp_draw [] [_] mo (by decide) rfl rfl rfl rfl ?_   -- region 1
  refine dOps_op rfl rfl (.cons (op_move rfl rfl ⟨rfl, rfl⟩) .nil) ?_   -- t6 ← move tmp 0
  refine dOps_op rfl rfl (.cons (op_nilCheck rfl rfl rfl ⟨rfl, rfl⟩) .nil) ?_   -- t7 ← nilCheck tmp 6
  refine dOps_op rfl rfl (.cons (op_fieldAddr_ref rfl rfl fo47_0 ⟨rfl, rfl⟩) .nil) ?_   -- t8 ← fieldAddr 47 tmp 7 0
  refine dOps_op rfl rfl (.cons (op_load_far rfl rfl h ta9 rfl ⟨rfl, rfl⟩) .nil) ?_   -- t9 ← load 9 tmp 8
  refine dOps_op rfl rfl (.cons (op_move rfl rfl ⟨rfl, rfl⟩) .nil) ?_   -- t10 ← move tmp 1
  refine dOps_op rfl rfl (.cons (op_call rfl rfl rfl co24 (laid_spec r hr _)) .nil) ?_   -- t11 ← call ('rec', {'callee': ('app', 'value', [('app', 'func', [24])])
  refine dOps_op rfl rfl (.cons (op_strcat rfl rfl rfl (by omega) ⟨rfl, rfl⟩) .nil) ?_   -- t12 ← binOp add 9 tmp 9 tmp 11 9
  refine dOps_op rfl rfl (.cons (op_assign rfl rfl ⟨rfl, rfl⟩) .nil) ?_   -- t5 ← assign tmp 12
  refine dOps_nil ?_
  refine mwp_seq ?_
  refine mwp_seq ?_
  refine mwp_region rfl ?_   -- region 2
  refine wOps_op rfl (op_move rfl rfl ?_)   -- t13 ← move tmp 5
  refine wOps_op rfl (op_len_bs rfl Try.underlying9 rfl ?_)   -- t14 ← call ('rec', {'callee': ('app', 'builtin', [('id', 'Go.Builtin.le
  refine wOps_op rfl (op_cmp rfl rfl rfl rfl ?_)   -- t15 ← binOp gtr 3 tmp 14 const int i64 100000 3
  refine wOps_nil ?_
  refine mwp_cond_t rfl (by simp; omega) ?_   -- if t15
  refine mwp_seq ?_
  refine mwp_region rfl ?_   -- region 3
  refine wOps_op rfl (op_makeInterface rfl rfl Try.underlying45 (by simp) ?_)   -- t16 ← makeInterface 45 const int i64 15
  refine wOps_op rfl (op_assign rfl rfl ?_)   -- t4 ← assign tmp 16
  refine wOps_nil ?_
  refine mwp_ret ?_
  exact ret_tmp (.inr rfl) Try.results15 rfl (.refl _) (.iface _ _ (.int _ _)) ⟨rfl, rfl⟩

theorem crash_spec (id : Nat) (b : Bs) (k : Nat) (S : MS) (h : S[id]? = some (tapeO b k)) (hk : k ≤ b.length) (hb : b.length ≤ 1000000) (n : Int) (hn : (IntKind.i64.wrap n) = n) (c : Bs) (hc : c = b.take (k + min n.toNat (b.length - k))) : MCalls Try.prog 11 [.ref id 0, .int .i64 n] S fun v σ' => v = .tup [] ∧ σ' = S.set id (tapeO (c.take (endJ (recsF c) (recsF c).length)) (endJ (recsF c) (recsF c).length)) := by
  refine mcalls_body Try.func11 rfl Try.ntmps11 (Nat.le_of_ble_eq_true rfl) ?_
  refine mwp_facts fun _ hcl => ?_
  rw [List.append_nil] at hcl
  have hcl_ : c.length ≤ 1000000 := by rw [hc, List.length_take]; omega
  have hg2 : (S.set id (tapeO c k))[id]? = some (tapeO c k) := get_set h
  refine mwp_seq ?_
  refine mwp_draw [18] [_, S.set id (tapeO c k) ++ []] mo (by decide) rfl rfl rfl rfl ?_   -- region 0
  refine dOps_op rfl rfl (.cons (op_move rfl rfl ⟨rfl, rfl⟩) .nil) ?_   -- t7 ← move tmp 0
  refine dOps_op rfl rfl (.cons (op_move rfl rfl ⟨rfl, rfl⟩) .nil) ?_   -- t8 ← move tmp 0
  refine dOps_op rfl rfl (.cons (op_nilCheck rfl rfl rfl ⟨rfl, rfl⟩) .nil) ?_   -- t9 ← nilCheck tmp 8
  refine dOps_op rfl rfl (.cons (op_fieldAddr_ref rfl rfl fo47_0 ⟨rfl, rfl⟩) .nil) ?_   -- t10 ← fieldAddr 47 tmp 9 0
  refine dOps_op rfl rfl (.cons (op_load_far rfl rfl h ta9 rfl ⟨rfl, rfl⟩) .nil) ?_   -- t11 ← load 9 tmp 10
  refine dOps_op rfl rfl (.cons (op_move rfl rfl ⟨rfl, rfl⟩) .nil) ?_   -- t12 ← move tmp 0
  refine dOps_op rfl rfl (.cons (op_nilCheck rfl rfl rfl ⟨rfl, rfl⟩) .nil) ?_   -- t13 ← nilCheck tmp 12
  refine dOps_op rfl rfl (.cons (op_fieldAddr_ref rfl rfl fo47_1 ⟨rfl, rfl⟩) .nil) ?_   -- t14 ← fieldAddr 47 tmp 13 1
  refine dOps_op rfl rfl (.cons (op_load_far rfl rfl h ta3 rfl ⟨rfl, rfl⟩) .nil) ?_   -- t15 ← load 3 tmp 14
  refine dOps_op rfl rfl (.cons (op_move rfl rfl ⟨rfl, rfl⟩) .nil) ?_   -- t16 ← move tmp 1
  refine dOps_op rfl rfl (.cons (op_max2' rfl rfl rfl (max0 n) ⟨rfl, rfl⟩) .nil) ?_   -- t17 ← call ('rec', {'callee': ('app', 'builtin', [('id', 'Go.Builtin.ma
  refine dOps_op rfl rfl (.cons (op_move rfl rfl ⟨rfl, rfl⟩) .nil) ?_   -- t18 ← move tmp 0
  refine dOps_op rfl rfl (.cons (op_call rfl rfl rfl co14 (loose_spec id b k _ (by first | exact h | exact get_app h) hk hb)) .nil) ?_   -- t19 ← call ('rec', {'callee': ('app', 'value', [('app', 'func', [14])])
  refine dOps_op rfl rfl (.cons (op_min2' rfl rfl rfl (min_nat n.toNat (b.length - k)) ⟨rfl, rfl⟩) .nil) ?_   -- t20 ← call ('rec', {'callee': ('app', 'builtin', [('id', 'Go.Builtin.mi
  refine dOps_op rfl rfl (.cons (op_arith rfl rfl rfl (wadd (a := k) (b := min n.toNat (b.length - k)) rfl (by omega)) ⟨rfl, rfl⟩) .nil) ?_   -- t21 ← binOp add 3 tmp 15 tmp 20 3
  refine dOps_op rfl rfl (.cons (op_slice_str rfl Try.underlying9 rfl .none (.some rfl rfl) (by omega) (by omega) ⟨rfl, rfl⟩) .nil) ?_   -- t22 ← slice 9 tmp 11 none some tmp 21 none
  rw [show (b.drop 0).take (k + min n.toNat (b.length - k) - 0) = c from hc.symm]
  refine dOps_op rfl rfl (.cons (op_nilCheck rfl rfl rfl ⟨rfl, rfl⟩) (.cons (op_nilCheck rfl rfl rfl ⟨rfl, rfl⟩) (.nil))) ?_   -- t23 ← nilCheck tmp 7
  refine dOps_op rfl rfl (.cons (op_fieldAddr_ref rfl rfl fo47_0 ⟨rfl, rfl⟩) .nil) ?_   -- t24 ← fieldAddr 47 tmp 23 0
  refine dOps_eff rfl rfl rfl rfl (op_store_far rfl rfl rfl h sz9 rfl rfl (Nat.le_of_ble_eq_true rfl) ⟨rfl, rfl⟩) ?_   -- store 9 tmp 24 tmp 22
  refine dOps_nil ?_
  refine mwp_seq ?_
  refine mwp_region rfl ?_   -- region 1
  refine wOps_op rfl (op_alloc' rfl zm3 rfl rfl ?_)   -- t4 ← alloc 3
  refine wOps_op rfl (op_store' rfl rfl rfl rfl sz3 rfl rfl (Nat.le_of_ble_eq_true rfl) rfl ?_)   -- store 3 tmp 4 const int i64 0
  refine wOps_nil ?_
  refine mwp_seq ?_
  refine mwp_seq ?_
  refine mwp_region rfl ?_   -- region 2
  refine wOps_op rfl (op_move rfl rfl ?_)   -- t25 ← move tmp 0
  refine wOps_op rfl (op_nilCheck rfl rfl rfl ?_)   -- t26 ← nilCheck tmp 25
  refine wOps_op rfl (op_fieldAddr_ref rfl rfl fo47_0 ?_)   -- t27 ← fieldAddr 47 tmp 26 0
  refine wOps_op rfl (op_load_far rfl rfl (get_set h) ta9 rfl ?_)   -- t28 ← load 9 tmp 27
  refine wOps_op rfl (op_call rfl rfl rfl co23 ((records_spec c _).mono ?_))   -- t29 ← call ('rec', {'callee': ('app', 'value', [('app', 'func', [23])])
  rintro _ _ ⟨rfl, rfl⟩
  rw [List.append_assoc]
  refine wOps_nil ?_
  refine mwp_block ?_   -- block 0
  refine mwp_rangeI (ok := fun σ => σ.length = S.length + 3 ∧ σ[((S.set id (tapeO c k)) ++ [MObj.cells [.int .i64 0]]).length]? = some (.cells [.str (bs c)])) (ys := (recsF c).map recY) (fun j => ([.cells [.int .i64 (endJ (recsF c) j : Int)], .cells [.str (bs c)]] : MS)) (fun j => rfl) rfl rfl co34 rfl (by simp) (records_iter c hcl_ _ _) (fun j => ⟨by simp, get_box⟩) rfl (fun y hy => by obtain ⟨p, _, rfl⟩ := List.mem_map.1 hy; rfl) ?_ ?_
  ·
    intro j y hy L'
    obtain ⟨p, hp, rfl⟩ : ∃ p, (recsF c)[j]? = some p ∧ recY p = y := by simpa using hy
    refine mwp_region rfl ?_   -- region 3
    refine wOps_op rfl (op_assign rfl rfl ?_)   -- t6 ← assign tmp 31
    refine wOps_nil ?_
    refine ⟨rfl, rfl, ?_⟩
    refine mwp_block ?_   -- block 1
    refine mwp_region rfl ?_   -- region 4
    refine wOps_op rfl (op_move rfl rfl ?_)   -- t32 ← move tmp 6
    refine wOps_op rfl (op_store_mid rfl rfl rfl rfl sz3 rfl rfl (Nat.le_of_ble_eq_true rfl) rfl ?_)   -- store 3 tmp 4 tmp 32
    refine wOps_nil ?_
    exact ⟨rfl, [], by rw [endJ_succ hp, List.append_nil]; rfl, .inl rfl⟩
  ·
    rw [List.append_assoc]
    rw [List.length_map]
    obtain ⟨e, he⟩ : ∃ e, e = endJ (recsF c) (recsF c).length := ⟨_, rfl⟩
    rw [← he]
    have hec : e ≤ c.length := by rw [he]; exact endJ_le c
    have hg3 : ((S.set id (tapeO c k)).set id (tapeO (c.take e) k))[id]? = some (tapeO (c.take e) k) := get_set hg2
    refine mwp_draw [11, 14] [_, ((S.set id (tapeO c k)).set id (tapeO (c.take e) k)) ++ ([.cells [.int .i64 (e : Int)], .cells [.str (bs c)]] ++ [MObj.gone]), (((S.set id (tapeO c k)).set id (tapeO (c.take e) k)).set id (tapeO (c.take e) e)) ++ ([.cells [.int .i64 (e : Int)], .cells [.str (bs c)]] ++ [MObj.gone])] mo (by decide) rfl rfl rfl rfl ?_   -- region 5
    refine dOps_op rfl rfl (.cons (op_move rfl rfl ⟨rfl, rfl⟩) .nil) ?_   -- t33 ← move tmp 0
    refine dOps_op rfl rfl (.cons (op_move rfl rfl ⟨rfl, rfl⟩) (.cons (op_move rfl rfl ⟨rfl, rfl⟩) (.nil))) ?_   -- t34 ← move tmp 0
    refine dOps_op rfl rfl (.cons (op_move rfl rfl ⟨rfl, rfl⟩) .nil) ?_   -- t35 ← move tmp 0
    refine dOps_op rfl rfl (.cons (op_nilCheck rfl rfl rfl ⟨rfl, rfl⟩) .nil) ?_   -- t36 ← nilCheck tmp 35
    refine dOps_op rfl rfl (.cons (op_fieldAddr_ref rfl rfl fo47_0 ⟨rfl, rfl⟩) .nil) ?_   -- t37 ← fieldAddr 47 tmp 36 0
    refine dOps_op rfl rfl (.cons (op_load_far rfl rfl hg2 ta9 rfl ⟨rfl, rfl⟩) .nil) ?_   -- t38 ← load 9 tmp 37
    refine dOps_op rfl rfl (.cons (op_load' rfl rfl rfl ta3 rfl ⟨rfl, rfl⟩) .nil) ?_   -- t39 ← load 3 tmp 4
    refine dOps_op rfl rfl (.cons (op_slice_str rfl Try.underlying9 rfl .none (.some rfl rfl) (by omega) (by omega) ⟨rfl, rfl⟩) .nil) ?_   -- t40 ← slice 9 tmp 38 none some tmp 39 none
    refine dOps_op rfl rfl (.cons (op_load' rfl rfl rfl ta3 rfl ⟨rfl, rfl⟩) (.cons (op_load_ref rfl rfl (get_own_set rfl) ta3 rfl ⟨rfl, rfl⟩) (.nil))) ?_   -- t41 ← load 3 tmp 4
    refine dOps_op rfl rfl (.cons (op_nilCheck rfl rfl rfl ⟨rfl, rfl⟩) (.cons (op_nilCheck rfl rfl rfl ⟨rfl, rfl⟩) (.nil))) ?_   -- t42 ← nilCheck tmp 33
    refine dOps_op rfl rfl (.cons (op_fieldAddr_ref rfl rfl fo47_0 ⟨rfl, rfl⟩) .nil) ?_   -- t43 ← fieldAddr 47 tmp 42 0
    refine dOps_eff rfl rfl rfl rfl (op_store_far rfl rfl rfl hg2 sz9 rfl rfl (Nat.le_of_ble_eq_true rfl) ⟨rfl, rfl⟩) ?_   -- store 9 tmp 43 tmp 40
    refine dOps_op rfl rfl (.cons (op_nilCheck rfl rfl rfl ⟨rfl, rfl⟩) (.cons (op_nilCheck rfl rfl rfl ⟨rfl, rfl⟩) (.nil))) ?_   -- t44 ← nilCheck tmp 34
    refine dOps_op rfl rfl (.cons (op_fieldAddr_ref rfl rfl fo47_1 ⟨rfl, rfl⟩) .nil) ?_   -- t45 ← fieldAddr 47 tmp 44 1
    refine dOps_eff rfl rfl rfl rfl (op_store_far rfl rfl rfl hg3 sz3 rfl rfl (Nat.le_of_ble_eq_true rfl) ⟨rfl, rfl⟩) ?_   -- store 3 tmp 45 tmp 41
    refine dOps_nil ?_
    exact ret_noneS (by simp) Try.results11 (by simp) (((hcl.set (tape_cl _ _ _)).set (tape_cl _ _ _)).set (tape_cl _ _ _)) ⟨rfl, by rw [set_set, set_set, he]⟩

def encS (s : Bs) : MV := .str (bs s)
theorem cl_encS (n : Nat) (s : Bs) : Cl n (encS s) := .str _
theorem encS_one (s : Bs) : encS s = .agg (encS s).cells ∨ [encS s] = (encS s).cells := .inr rfl
def recJ (l : List (Bs × Nat)) (j : Nat) : List Bs := (l.take j).map (·.1)
theorem recJ_succ {l : List (Bs × Nat)} {j : Nat} {p : Bs × Nat} (h : l[j]? = some p) : recJ l (j + 1) = recJ l j ++ [p.1] := by
  unfold recJ
  rw [List.take_add_one, h]
  simp
theorem recJ_len {l : List (Bs × Nat)} {j : Nat} {x : Bs} : (recJ l j ++ [x]).length = (recJ l j).length + 1 := by simp
theorem recsS_len : ∀ (k off : Nat) (b : Bs), (recsS k off b).length ≤ k
  | 0, off, b => by simp [recsS]
  | k + 1, off, b => by
    rw [recsS]
    dsimp only
    split
    · simp
    · split
      · simp
      · split
        · simp
        · have := recsS_len k (off + ((numF b).2 + (numF b).1 + 8)) (b.drop ((numF b).2 + (numF b).1 + 8))
          simp only [List.length_cons]
          omega


theorem recordsL_spec (id : Nat) (b : Bs) (k : Nat) (S : MS) (h : S[id]? = some (tapeO b k)) (hb : b.length ≤ 1000000) : MCalls Try.prog 12 [.ref id 0] S fun v σ' => v = .lst none 1 (((recsF b).map (·.1)).map encS) ∧ σ' = S := by
  refine mcalls_body Try.func12 rfl Try.ntmps12 (Nat.le_of_ble_eq_true rfl) ?_
  refine mwp_seq ?_
  refine mwp_region rfl ?_   -- region 0
  refine wOps_op rfl (op_assign rfl rfl ?_)   -- t2 ← assign const slice none 0 0
  refine wOps_nil ?_
  refine mwp_seq ?_
  refine mwp_region rfl ?_   -- region 1
  refine wOps_op rfl (op_alloc' rfl zm22 rfl rfl ?_)   -- t3 ← alloc 22
  refine wOps_nil ?_
  refine mwp_seq ?_
  refine mwp_seq ?_
  refine mwp_region rfl ?_   -- region 2
  refine wOps_op rfl (op_move rfl rfl ?_)   -- t5 ← move tmp 0
  refine wOps_op rfl (op_nilCheck rfl rfl rfl ?_)   -- t6 ← nilCheck tmp 5
  refine wOps_op rfl (op_fieldAddr_ref rfl rfl fo47_0 ?_)   -- t7 ← fieldAddr 47 tmp 6 0
  refine wOps_op rfl (op_load_far rfl rfl h ta9 rfl ?_)   -- t8 ← load 9 tmp 7
  refine wOps_op rfl (op_call rfl rfl rfl co23 ((records_spec b _).mono ?_))   -- t9 ← call ('rec', {'callee': ('app', 'value', [('app', 'func', [23])])
  rintro _ _ ⟨rfl, rfl⟩
  rw [List.append_assoc]
  refine wOps_nil ?_
  refine mwp_block ?_   -- block 0
  refine mwp_cellrow 0 9 1 rfl (Nat.le_refl _) rfl rfl ?_
  refine mwp_rangeI (ok := fun σ => σ.length = S.length + 4 ∧ σ[(S ++ [MObj.cells [.lst0]]).length]? = some (.cells [.str (bs b)])) (ys := (recsF b).map recY) (fun j => ([.cells [.lst (some (S.length + 2)) 1 ((recJ (recsF b) j).map encS)], .cells [.str (bs b)], .row 9 1 (recJ (recsF b) j).length] : MS)) (fun j => rfl) rfl rfl co34 rfl (by simp) (records_iter b hb _ _) (fun j => ⟨by simp, get_box3⟩) rfl (fun y hy => by obtain ⟨p, _, rfl⟩ := List.mem_map.1 hy; rfl) ?_ ?_
  ·
    intro j y hy L'
    obtain ⟨p, hp, rfl⟩ : ∃ p, (recsF b)[j]? = some p ∧ recY p = y := by simpa using hy
    have hjl : (recJ (recsF b) j).length ≤ 1000000 := by have h1 := recsS_len b.length 0 b; unfold recJ; rw [List.length_map, List.length_take]; unfold recsF; omega
    refine mwp_region rfl ?_   -- region 3
    refine wOps_op rfl (op_assign rfl rfl ?_)   -- t4 ← assign tmp 10
    refine wOps_nil ?_
    refine ⟨rfl, rfl, ?_⟩
    refine mwp_block ?_   -- block 1
    refine mwp_region rfl ?_   -- region 4
    refine wOps_op rfl (op_load_mid rfl rfl rfl ta22 rfl ?_)   -- t12 ← load 22 tmp 3
    refine wOps_op rfl (op_move rfl rfl ?_)   -- t13 ← move tmp 4
    refine wOps_op rfl (op_buildSlice rfl Try.underlying22 el9 rfl rfl (by decide) (by decide) rfl rfl ?_)   -- t14 ← buildSlice 22 1 [(0,tmp 13)]
    refine wOps_op rfl (op_append_mid rfl Try.underlying22 el9 rfl rfl rfl (by simp) (by simp only [List.length_map, List.length_cons, List.length_nil]; omega) (by simp only [List.length_map, List.length_cons, List.length_nil]; omega) rfl ?_)   -- t15 ← call ('rec', {'callee': ('app', 'builtin', [('id', 'Go.Builtin.ap
    refine wOps_op rfl (op_store_mid rfl rfl rfl rfl sz22 rfl rfl (Nat.le_of_ble_eq_true rfl) rfl ?_)   -- store 22 tmp 3 tmp 15
    refine wOps_nil ?_
    exact ⟨rfl, [], by rw [recJ_succ hp, List.append_nil, List.map_append, recJ_len]; rfl, .inl rfl⟩
  ·
    rw [List.append_assoc]
    rw [List.length_map]
    refine mwp_seq ?_
    refine mwp_region rfl ?_   -- region 5
    refine wOps_op rfl (op_load' rfl rfl rfl ta22 rfl ?_)   -- t16 ← load 22 tmp 3
    refine wOps_op rfl (op_assign rfl rfl ?_)   -- t2 ← assign tmp 16
    refine wOps_nil ?_
    refine mwp_ret ?_
    exact ret_tmp (.inr rfl) Try.results12 rfl (Sub.trans (.view _ _ _) (.of_eq (by unfold recJ; rw [List.take_length]))) (cl_lst (cl_encS _) encS_one) ⟨rfl, rfl⟩
end Go.Proofs.Ytddcpfbmoahnpaa
