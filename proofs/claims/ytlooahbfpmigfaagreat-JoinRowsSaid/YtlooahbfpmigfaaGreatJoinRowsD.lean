/-
  Texts on which the proof of JoinRows leans: part 4.
-/
import Derived.Test.YtlooahbfpmigfaaGreatJoinRowsC
import Derived.Lib.Bytealg
import Derived.Laws.Externs
section
set_option linter.unusedVariables false
set_option linter.unusedSimpArgs false
set_option maxRecDepth 20000
set_option maxHeartbeats 400000
namespace Go.Proofs.YtlooahbfpmigfaaGreat
open Go Go.MV
theorem gt_nil {α β : Type} {f : α → β} : intCmp .gtr ((((([] : List α).map f).length : Nat)) : Int) 0 = some false := by simp [intCmp]
theorem gt_cons {α β : Type} {f : α → β} {x : α} {l : List α} : intCmp .gtr (((((x :: l).map f).length : Nat)) : Int) 0 = some true := by simp [intCmp]
theorem eq_nil {α β : Type} {f : α → β} : intCmp .eql ((((([] : List α).map f).length : Nat)) : Int) 0 = some true := by simp [intCmp]
theorem eq_cons {α β : Type} {f : α → β} {x : α} {l : List α} : intCmp .eql (((((x :: l).map f).length : Nat)) : Int) 0 = some false := by simp [intCmp]; omega
theorem set_self_ {S : MS} {id : Nat} {o : MObj} (h : S[id]? = some o) : S.set id o = S := by
 obtain ⟨hlt, e⟩ := List.getElem?_eq_some_iff.1 h
 rw [← e]
 exact List.set_getElem_self hlt
theorem get_ne {S : MS} {i k : Nat} {o p : MObj} (hne : i ≠ k) (h : S[k]? = some p) : (S.set i o)[k]? = some p := by
 rw [List.getElem?_set_ne hne]; exact h
theorem drop1 {α β : Type} {f : α → β} {x : α} {l : List α} : (((x :: l).map f).drop 1).take (((x :: l).map f).length - 1) = l.map f := by
 rw [List.map_cons, List.drop_succ_cons, List.drop_zero]
 exact List.take_of_length_le (by simp)
theorem get_last2 {A A' J : MS} {c : MObj} (h : A'.length = A.length) : ((A' ++ J) ++ [c])[(A ++ J).length]? = some c := by
 have e : (A ++ J).length = (A' ++ J).length := by simp [h]
 rw [e]
 exact get_mid
theorem cmerged_iter (cmp : List Tk → List Tk → Int) (kc : FuncId) (hcc : CallOk Tryz.prog kc) (hcmp : ∀ (k1 k2 : List Tk) (S : MS), MCalls Tryz.prog kc ([] ++ [encC k1, encC k2] ++ []) S fun v σ' => v = .int .i64 (cmp k1 k2) ∧ σ' = S) (a b : List (REnt (List Tk))) (ida idb idc l0 : Nat) (hab : ida ≠ idb) :
  IterOk2 Tryz.prog 159 [] [.ref ida 0, .ref idb 0, .ref idc 0] ((mergeE cmp a b).map fun e => [encE encC e]) (fun σ => σ.length = l0 ∧ ClS σ) (fun j σ τ => σ[ida]? = some (.cells [.lst none 3 ((restE cmp a b j).1.map (encR encC))]) ∧ σ[idb]? = some (.cells [.lst none 3 ((restE cmp a b j).2.map (encR encC))]) ∧ σ[idc]? = some (.cells [.fn (.func kc) [] []]) ∧ τ = (σ.set ida (.cells [.lst none 3 ((restE cmp a b (j + 1)).1.map (encR encC))])).set idb (.cells [.lst none 3 ((restE cmp a b (j + 1)).2.map (encR encC))])) := by
 refine iterOk2_of fun id T U m hok hoku hm hyt hyf => ?_
 have hml : ((mergeE cmp a b).map fun e => [encE encC e]).length = (mergeE cmp a b).length := List.length_map ..
 refine mcalls_body Tryz.func159 rfl Tryz.ntmps159 (Nat.le_of_ble_eq_true rfl) ?_
 rw [List.append_nil]
 show mwp _ _ _ _ _ _ _ (([] : MS) ++ T 0)
 refine mwp_block ?_
 refine mwp_loopK (α := Nat × MS) [(0, _), (1, _), (2, _), (3, _)] (fun x => []) (fun x => T x.1 ++ x.2) (fun x => x.1 ≤ m ∧ mergeE cmp (restE cmp a b x.1).1 (restE cmp a b x.1).2 = (mergeE cmp a b).drop x.1) (fun x => m + 1 - x.1) (⟨0, []⟩) (.keep rfl (.keep rfl (.keep rfl (.keep rfl (.nil))))) (.nil) (⟨by simp, rfl⟩) (by rw [List.append_nil]) ?_
 rintro ⟨j, J⟩ ⟨hj, he⟩
 dsimp only at hj he ⊢
 show mwp _ _ _ _ _ _ _ (T j ++ J)
 obtain ⟨hA, hB, hC, hU⟩ := hoku j hj
 obtain ⟨⟨ra, rb⟩, hR⟩ : ∃ p, restE cmp a b j = p := ⟨_, rfl⟩
 rw [restE, hR] at hU
 rw [hR] at hA hB he
 dsimp only at hA hB he
 have hlT : (U j).length = (T j).length := by rw [hU]; simp
 refine mwp_seq <| mwp_seq ?_
 rcases ra with _ | ⟨x, ra⟩ <;> rcases rb with _ | ⟨y, rb⟩
 ·
  rw [mergeE] at he
  have hdl := drop_nil_len he
  have hjm : j = m := by omega
  refine qR rfl <| qO rfl <| op_load_ref rfl rfl (by first | exact get_app (get_app hA) | exact get_app hA) ta151 rfl ?_
  refine qE rfl rfl Tryz.underlying151 rfl <| qC rfl rfl rfl rfl (gt_nil) <| qM rfl rfl rfl <| qO rfl <| op_load_ref rfl rfl (by first | exact get_app (get_app hB) | exact get_app hB | exact get_app (get_app (get_ne hab hB))) ta151 rfl ?_
  refine qE rfl rfl Tryz.underlying151 rfl <| qC rfl rfl rfl rfl (gt_nil) <| qP rfl rfl rfl rfl <| qN <| mwp_cond_f rfl (rfl) <| mwp_exit ?_
  exact ret_noneS (S' := T j) (by simp) Tryz.results159 (by rw [(hok _).1, (hok _).1]; exact Nat.le_refl _) (hok _).2 ⟨rfl, by rw [hjm, if_neg (by omega)]⟩
 ·
  refine qR rfl <| qO rfl <| op_load_ref rfl rfl (by first | exact get_app (get_app hA) | exact get_app hA) ta151 rfl ?_
  refine qE rfl rfl Tryz.underlying151 rfl <| qC rfl rfl rfl rfl (gt_nil) <| qM rfl rfl rfl <| qO rfl <| op_load_ref rfl rfl (by first | exact get_app (get_app hB) | exact get_app hB | exact get_app (get_app (get_ne hab hB))) ta151 rfl ?_
  refine qE rfl rfl Tryz.underlying151 rfl <| qC rfl rfl rfl rfl (gt_cons) <| qP rfl rfl rfl rfl <| qN <| mwp_cond_t rfl (rfl) <| mwp_skip <| mwp_block <| mwp_seq <| qR rfl <| qO rfl <| op_alloc rfl zm154 <| qN <| mwp_seq <| mwp_block <| mwp_seq ?_
  refine mwp_draw [] [_] mo (by decide) rfl rfl rfl rfl ?_
  refine dO rfl rfl rfl (op_load_ref rfl rfl (by first | exact get_app (get_app hB) | exact get_app hB | exact get_app (get_app (get_ne hab hB))) ta151 rfl ⟨rfl, rfl⟩) ?_
  refine dO rfl rfl rfl (op_len_lst rfl Tryz.underlying151 rfl ⟨rfl, rfl⟩) <| dO rfl rfl rfl (op_cmp rfl rfl rfl (eq_cons) ⟨rfl, rfl⟩) <| dO rfl rfl rfl (op_move rfl rfl ⟨rfl, rfl⟩) <| dO rfl rfl rfl (op_load_ref rfl rfl (by first | exact get_app (get_app hA) | exact get_app hA) ta151 rfl ⟨rfl, rfl⟩) ?_
  refine dO rfl rfl rfl (op_len_lst rfl Tryz.underlying151 rfl ⟨rfl, rfl⟩) <| dO rfl rfl rfl (op_cmp rfl rfl rfl (gt_nil) ⟨rfl, rfl⟩) <| dO rfl rfl rfl (op_move rfl rfl ⟨rfl, rfl⟩) <| dS rfl rfl <| dS rfl rfl <| dS rfl rfl <| dS rfl rfl <| dS rfl rfl <| dS rfl rfl <| dS rfl rfl <| dS rfl rfl <| dS rfl rfl <| dS rfl rfl <| dS rfl rfl <| dO rfl rfl rfl (op_pick rfl rfl rfl ⟨rfl, rfl⟩) <| dO rfl rfl rfl (op_pick rfl rfl rfl ⟨rfl, rfl⟩) <| dO rfl rfl rfl (op_assign rfl rfl ⟨rfl, rfl⟩) <| dOps_nil <| mwp_cond_f rfl (rfl) <| mwp_seq ?_
  refine mwp_draw [] [_] mo (by decide) rfl rfl rfl rfl ?_
  refine dO rfl rfl rfl (op_load_ref rfl rfl (by first | exact get_app (get_app hA) | exact get_app hA) ta151 rfl ⟨rfl, rfl⟩) ?_
  refine dO rfl rfl rfl (op_len_lst rfl Tryz.underlying151 rfl ⟨rfl, rfl⟩) <| dO rfl rfl rfl (op_cmp rfl rfl rfl (eq_nil) ⟨rfl, rfl⟩) <| dO rfl rfl rfl (op_move rfl rfl ⟨rfl, rfl⟩) <| dS rfl rfl <| dS rfl rfl <| dS rfl rfl <| dS rfl rfl <| dS rfl rfl <| dS rfl rfl <| dS rfl rfl <| dS rfl rfl <| dS rfl rfl <| dS rfl rfl <| dS rfl rfl <| dO rfl rfl rfl (op_pick rfl rfl rfl ⟨rfl, rfl⟩) <| dO rfl rfl rfl (op_assign rfl rfl ⟨rfl, rfl⟩) <| dOps_nil <| mwp_cond_t rfl (rfl) ?_
  have hst : stepE cmp ([], y :: rb) = ([], rb) := by rw [stepE]
  rw [mergeE] at he
  obtain ⟨hy, hnx⟩ := drop_cons_get he
  replace hy : ((mergeE cmp a b).map fun e => [encE encC e])[j]? = some [encE encC (y.1, y.2, none)] := by rw [List.getElem?_map, hy]; rfl
  have hjl := (List.getElem?_eq_some_iff.1 hy).1
  have hUB : U j = (T j).set idb (.cells [.lst none 3 (rb.map (encR encC))]) := by rw [hU, hst, set_self_ hA]
  refine mwp_draw [5, 6] [_, (T j ++ J) ++ [.cells [encC y.1, .sptr (encV y.2).cells, .ptr0]], (U j ++ J) ++ [.cells [encC y.1, .sptr (encV y.2).cells, .ptr0]]] mo (by decide) rfl rfl rfl rfl ?_
  refine dO rfl rfl rfl (op_load_ref rfl rfl (by first | exact get_app (get_app hB) | exact get_app hB | exact get_app (get_app (get_ne hab hB))) ta151 rfl ⟨rfl, rfl⟩) ?_
  refine dO rfl rfl rfl (op_indexAddr rfl Tryz.underlying151 sz154 (by decide) rfl rfl rfl (show _ = some (encR encC y) from rfl) ⟨rfl, rfl⟩) ?_
  refine dO rfl rfl rfl (op_load_sptr rfl rfl ta154 rfl ⟨rfl, rfl⟩) <| dOps_op rfl rfl (.cons (op_load_ref rfl rfl (by first | exact get_app (get_app hB) | exact get_app hB | exact get_app (get_app (get_ne hab hB))) ta151 rfl ⟨rfl, rfl⟩) (.cons (op_load_ref rfl rfl (by first | exact get_app (get_app hB) | exact get_app hB | exact get_app (get_app (get_ne hab hB))) ta151 rfl ⟨rfl, rfl⟩) (.nil))) ?_
  refine dOps_op rfl rfl (.cons (op_slice rfl Tryz.underlying151 sz154 rfl (.some rfl rfl) .none (by simp) (by simp) ⟨rfl, rfl⟩) (.cons (op_slice rfl Tryz.underlying151 sz154 rfl (.some rfl rfl) .none (by simp) (by simp) ⟨rfl, rfl⟩) (.nil))) ?_
  rw [drop1]
  refine dOps_eff rfl rfl rfl rfl (op_store_last rfl rfl rfl sz154 rfl rfl (Nat.le_of_ble_eq_true rfl) ⟨rfl, rfl⟩) <| dOps_eff rfl rfl rfl rfl (op_store_box rfl rfl rfl (by first | exact hB | exact get_ne hab hB) sz151 rfl rfl (Nat.le_of_ble_eq_true rfl) ⟨rfl, by rw [hUB]; rfl⟩) ?_
  refine dOps_nil <| mwp_seq ?_
  rcases Nat.lt_or_eq_of_le hj with hjm | hjm
  ·
   refine qR rfl <| qM rfl rfl rfl <| qO rfl <| op_load_ref rfl rfl (get_last2 hlT) ta154 rfl <| qO rfl <| (hyt j _ hjm hy).at2 rfl rfl rfl <| qO rfl <| op_not rfl rfl <| qN <| mwp_cond_f rfl (rfl) <| mwp_skip ?_
   refine ⟨⟨j + 1, J ++ [_]⟩, by dsimp only; omega, ⟨by dsimp only; omega, by dsimp only; rw [restE, hR, hst]; exact hnx⟩, List.append_assoc .., (.keep rfl (.keep rfl (.keep rfl (.keep rfl (.nil))))), (.nil)⟩
  ·
   refine qR rfl <| qM rfl rfl rfl <| qO rfl <| op_load_ref rfl rfl (get_last2 hlT) ta154 rfl <| qO rfl <| (hyf j _ hjm hy).at2 rfl rfl rfl <| qO rfl <| op_not rfl rfl <| qN <| mwp_cond_t rfl (rfl) <| mwp_ret ?_
   rw [List.append_assoc]
   exact ret_noneS (S' := T (j + 1)) (by simp) Tryz.results159 (by rw [(hok _).1, (hok _).1]; exact Nat.le_refl _) (hok _).2 ⟨rfl, by rw [hjm, if_pos (by omega)]⟩
 ·
  refine qR rfl <| qO rfl <| op_load_ref rfl rfl (by first | exact get_app (get_app hA) | exact get_app hA) ta151 rfl ?_
  refine qE rfl rfl Tryz.underlying151 rfl <| qC rfl rfl rfl rfl (gt_cons) <| qM rfl rfl rfl <| qS rfl <| qS rfl <| qS rfl <| qP rfl rfl rfl rfl <| qN <| mwp_cond_t rfl (rfl) <| mwp_skip <| mwp_block <| mwp_seq <| qR rfl <| qO rfl <| op_alloc rfl zm154 <| qN <| mwp_seq <| mwp_block <| mwp_seq ?_
  refine mwp_draw [] [_] mo (by decide) rfl rfl rfl rfl ?_
  refine dO rfl rfl rfl (op_load_ref rfl rfl (by first | exact get_app (get_app hB) | exact get_app hB | exact get_app (get_app (get_ne hab hB))) ta151 rfl ⟨rfl, rfl⟩) ?_
  refine dO rfl rfl rfl (op_len_lst rfl Tryz.underlying151 rfl ⟨rfl, rfl⟩) <| dO rfl rfl rfl (op_cmp rfl rfl rfl (eq_nil) ⟨rfl, rfl⟩) <| dO rfl rfl rfl (op_move rfl rfl ⟨rfl, rfl⟩) <| dS rfl rfl <| dS rfl rfl <| dS rfl rfl <| dS rfl rfl <| dS rfl rfl <| dS rfl rfl <| dS rfl rfl <| dS rfl rfl <| dS rfl rfl <| dS rfl rfl <| dS rfl rfl <| dS rfl rfl <| dS rfl rfl <| dS rfl rfl <| dS rfl rfl <| dS rfl rfl <| dO rfl rfl rfl (op_pick rfl rfl rfl ⟨rfl, rfl⟩) <| dO rfl rfl rfl (op_assign rfl rfl ⟨rfl, rfl⟩) <| dOps_nil <| mwp_cond_t rfl (rfl) ?_
  have hst : stepE cmp (x :: ra, []) = (ra, []) := by rw [stepE]
  rw [mergeE] at he
  obtain ⟨hy, hnx⟩ := drop_cons_get he
  replace hy : ((mergeE cmp a b).map fun e => [encE encC e])[j]? = some [encE encC (x.1, x.2, none)] := by rw [List.getElem?_map, hy]; rfl
  have hjl := (List.getElem?_eq_some_iff.1 hy).1
  have hUA : U j = (T j).set ida (.cells [.lst none 3 (ra.map (encR encC))]) := by rw [hU, hst]; exact set_self_ (get_ne hab hB)
  refine mwp_draw [5, 6] [_, (T j ++ J) ++ [.cells [encC x.1, .sptr (encV x.2).cells, .ptr0]], (U j ++ J) ++ [.cells [encC x.1, .sptr (encV x.2).cells, .ptr0]]] mo (by decide) rfl rfl rfl rfl ?_
  refine dO rfl rfl rfl (op_load_ref rfl rfl (by first | exact get_app (get_app hA) | exact get_app hA) ta151 rfl ⟨rfl, rfl⟩) ?_
  refine dO rfl rfl rfl (op_indexAddr rfl Tryz.underlying151 sz154 (by decide) rfl rfl rfl (show _ = some (encR encC x) from rfl) ⟨rfl, rfl⟩) ?_
  refine dO rfl rfl rfl (op_load_sptr rfl rfl ta154 rfl ⟨rfl, rfl⟩) <| dOps_op rfl rfl (.cons (op_load_ref rfl rfl (by first | exact get_app (get_app hA) | exact get_app hA) ta151 rfl ⟨rfl, rfl⟩) (.cons (op_load_ref rfl rfl (by first | exact get_app (get_app hA) | exact get_app hA) ta151 rfl ⟨rfl, rfl⟩) (.nil))) ?_
  refine dOps_op rfl rfl (.cons (op_slice rfl Tryz.underlying151 sz154 rfl (.some rfl rfl) .none (by simp) (by simp) ⟨rfl, rfl⟩) (.cons (op_slice rfl Tryz.underlying151 sz154 rfl (.some rfl rfl) .none (by simp) (by simp) ⟨rfl, rfl⟩) (.nil))) ?_
  rw [drop1]
  refine dOps_eff rfl rfl rfl rfl (op_store_last rfl rfl rfl sz154 rfl rfl (Nat.le_of_ble_eq_true rfl) ⟨rfl, rfl⟩) <| dOps_eff rfl rfl rfl rfl (op_store_box rfl rfl rfl (hA) sz151 rfl rfl (Nat.le_of_ble_eq_true rfl) ⟨rfl, by rw [hUA]; rfl⟩) ?_
  refine dOps_nil <| mwp_seq ?_
  rcases Nat.lt_or_eq_of_le hj with hjm | hjm
  ·
   refine qR rfl <| qM rfl rfl rfl <| qO rfl <| op_load_ref rfl rfl (get_last2 hlT) ta154 rfl <| qO rfl <| (hyt j _ hjm hy).at2 rfl rfl rfl <| qO rfl <| op_not rfl rfl <| qN <| mwp_cond_f rfl (rfl) <| mwp_skip ?_
   refine ⟨⟨j + 1, J ++ [_]⟩, by dsimp only; omega, ⟨by dsimp only; omega, by dsimp only; rw [restE, hR, hst]; exact hnx⟩, List.append_assoc .., (.keep rfl (.keep rfl (.keep rfl (.keep rfl (.nil))))), (.nil)⟩
  ·
   refine qR rfl <| qM rfl rfl rfl <| qO rfl <| op_load_ref rfl rfl (get_last2 hlT) ta154 rfl <| qO rfl <| (hyf j _ hjm hy).at2 rfl rfl rfl <| qO rfl <| op_not rfl rfl <| qN <| mwp_cond_t rfl (rfl) <| mwp_ret ?_
   rw [List.append_assoc]
   exact ret_noneS (S' := T (j + 1)) (by simp) Tryz.results159 (by rw [(hok _).1, (hok _).1]; exact Nat.le_refl _) (hok _).2 ⟨rfl, by rw [hjm, if_pos (by omega)]⟩
 ·
  refine qR rfl <| qO rfl <| op_load_ref rfl rfl (by first | exact get_app (get_app hA) | exact get_app hA) ta151 rfl ?_
  refine qE rfl rfl Tryz.underlying151 rfl <| qC rfl rfl rfl rfl (gt_cons) <| qM rfl rfl rfl <| qS rfl <| qS rfl <| qS rfl <| qP rfl rfl rfl rfl <| qN <| mwp_cond_t rfl (rfl) <| mwp_skip <| mwp_block <| mwp_seq <| qR rfl <| qO rfl <| op_alloc rfl zm154 <| qN <| mwp_seq <| mwp_block <| mwp_seq ?_
  refine mwp_draw [] [_] mo (by decide) rfl rfl rfl rfl ?_
  refine dO rfl rfl rfl (op_load_ref rfl rfl (by first | exact get_app (get_app hB) | exact get_app hB | exact get_app (get_app (get_ne hab hB))) ta151 rfl ⟨rfl, rfl⟩) ?_
  refine dO rfl rfl rfl (op_len_lst rfl Tryz.underlying151 rfl ⟨rfl, rfl⟩) <| dO rfl rfl rfl (op_cmp rfl rfl rfl (eq_cons) ⟨rfl, rfl⟩) <| dO rfl rfl rfl (op_move rfl rfl ⟨rfl, rfl⟩) <| dO rfl rfl rfl (op_load_ref rfl rfl (by first | exact get_app (get_app hA) | exact get_app hA) ta151 rfl ⟨rfl, rfl⟩) ?_
  refine dO rfl rfl rfl (op_len_lst rfl Tryz.underlying151 rfl ⟨rfl, rfl⟩) <| dO rfl rfl rfl (op_cmp rfl rfl rfl (gt_cons) ⟨rfl, rfl⟩) <| dO rfl rfl rfl (op_move rfl rfl ⟨rfl, rfl⟩) ?_
  refine dOps_op rfl rfl (.cons (op_load_ref rfl rfl (get_app (get_app hC)) ta47 rfl ⟨rfl, rfl⟩) .nil) ?_
  refine dO rfl rfl rfl (op_load_ref rfl rfl (by first | exact get_app (get_app hA) | exact get_app hA) ta151 rfl ⟨rfl, rfl⟩) ?_
  refine dO rfl rfl rfl (op_indexAddr rfl Tryz.underlying151 sz154 (by decide) rfl rfl rfl (show _ = some (encR encC x) from rfl) ⟨rfl, rfl⟩) ?_
  refine dO rfl rfl rfl (op_fieldAddr_sptr rfl rfl fo154_0 ⟨rfl, rfl⟩) <| dO rfl rfl rfl (op_load_sptr rfl rfl ta44 rfl ⟨rfl, rfl⟩) <| dO rfl rfl rfl (op_load_ref rfl rfl (by first | exact get_app (get_app hB) | exact get_app hB | exact get_app (get_app (get_ne hab hB))) ta151 rfl ⟨rfl, rfl⟩) ?_
  refine dO rfl rfl rfl (op_indexAddr rfl Tryz.underlying151 sz154 (by decide) rfl rfl rfl (show _ = some (encR encC y) from rfl) ⟨rfl, rfl⟩) ?_
  refine dO rfl rfl rfl (op_fieldAddr_sptr rfl rfl fo154_0 ⟨rfl, rfl⟩) <| dO rfl rfl rfl (op_load_sptr rfl rfl ta44 rfl ⟨rfl, rfl⟩) <| dOps_op rfl rfl (.cons (op_call rfl rfl rfl hcc (hcmp x.1 y.1 _)) .nil) <| dO rfl rfl rfl (op_cmp rfl rfl rfl rfl ⟨rfl, rfl⟩) <| dO rfl rfl rfl (op_pick rfl rfl rfl ⟨rfl, rfl⟩) <| dO rfl rfl rfl (op_pick rfl rfl rfl ⟨rfl, rfl⟩) <| dO rfl rfl rfl (op_assign rfl rfl ⟨rfl, rfl⟩) <| dOps_nil ?_
  refine mwp_cond_split rfl (fun h31 => ?_) (fun h31 => ?_)
  ·
   have hlt : cmp x.1 y.1 < 0 := by simpa using h31
   have hst : stepE cmp (x :: ra, y :: rb) = (ra, y :: rb) := by rw [stepE, if_pos hlt]
   rw [mergeE, if_pos hlt] at he
   obtain ⟨hy, hnx⟩ := drop_cons_get he
   replace hy : ((mergeE cmp a b).map fun e => [encE encC e])[j]? = some [encE encC (x.1, x.2, none)] := by rw [List.getElem?_map, hy]; rfl
   have hjl := (List.getElem?_eq_some_iff.1 hy).1
   have hUA : U j = (T j).set ida (.cells [.lst none 3 (ra.map (encR encC))]) := by rw [hU, hst]; exact set_self_ (get_ne hab hB)
   refine mwp_draw [5, 6] [_, (T j ++ J) ++ [.cells [encC x.1, .sptr (encV x.2).cells, .ptr0]], (U j ++ J) ++ [.cells [encC x.1, .sptr (encV x.2).cells, .ptr0]]] mo (by decide) rfl rfl rfl rfl ?_
   refine dO rfl rfl rfl (op_load_ref rfl rfl (by first | exact get_app (get_app hA) | exact get_app hA) ta151 rfl ⟨rfl, rfl⟩) ?_
   refine dO rfl rfl rfl (op_indexAddr rfl Tryz.underlying151 sz154 (by decide) rfl rfl rfl (show _ = some (encR encC x) from rfl) ⟨rfl, rfl⟩) ?_
   refine dO rfl rfl rfl (op_load_sptr rfl rfl ta154 rfl ⟨rfl, rfl⟩) <| dOps_op rfl rfl (.cons (op_load_ref rfl rfl (by first | exact get_app (get_app hA) | exact get_app hA) ta151 rfl ⟨rfl, rfl⟩) (.cons (op_load_ref rfl rfl (by first | exact get_app (get_app hA) | exact get_app hA) ta151 rfl ⟨rfl, rfl⟩) (.nil))) ?_
   refine dOps_op rfl rfl (.cons (op_slice rfl Tryz.underlying151 sz154 rfl (.some rfl rfl) .none (by simp) (by simp) ⟨rfl, rfl⟩) (.cons (op_slice rfl Tryz.underlying151 sz154 rfl (.some rfl rfl) .none (by simp) (by simp) ⟨rfl, rfl⟩) (.nil))) ?_
   rw [drop1]
   refine dOps_eff rfl rfl rfl rfl (op_store_last rfl rfl rfl sz154 rfl rfl (Nat.le_of_ble_eq_true rfl) ⟨rfl, rfl⟩) <| dOps_eff rfl rfl rfl rfl (op_store_box rfl rfl rfl (hA) sz151 rfl rfl (Nat.le_of_ble_eq_true rfl) ⟨rfl, by rw [hUA]; rfl⟩) ?_
   refine dOps_nil <| mwp_seq ?_
   rcases Nat.lt_or_eq_of_le hj with hjm | hjm
   ·
    refine qR rfl <| qM rfl rfl rfl <| qO rfl <| op_load_ref rfl rfl (get_last2 hlT) ta154 rfl <| qO rfl <| (hyt j _ hjm hy).at2 rfl rfl rfl <| qO rfl <| op_not rfl rfl <| qN <| mwp_cond_f rfl (rfl) <| mwp_skip ?_
    refine ⟨⟨j + 1, J ++ [_]⟩, by dsimp only; omega, ⟨by dsimp only; omega, by dsimp only; rw [restE, hR, hst]; exact hnx⟩, List.append_assoc .., (.keep rfl (.keep rfl (.keep rfl (.keep rfl (.nil))))), (.nil)⟩
   ·
    refine qR rfl <| qM rfl rfl rfl <| qO rfl <| op_load_ref rfl rfl (get_last2 hlT) ta154 rfl <| qO rfl <| (hyf j _ hjm hy).at2 rfl rfl rfl <| qO rfl <| op_not rfl rfl <| qN <| mwp_cond_t rfl (rfl) <| mwp_ret ?_
    rw [List.append_assoc]
    exact ret_noneS (S' := T (j + 1)) (by simp) Tryz.results159 (by rw [(hok _).1, (hok _).1]; exact Nat.le_refl _) (hok _).2 ⟨rfl, by rw [hjm, if_pos (by omega)]⟩
  ·
   have hlt : ¬ cmp x.1 y.1 < 0 := by simpa using h31
   refine mwp_seq ?_
   refine mwp_draw [] [_] mo (by decide) rfl rfl rfl rfl ?_
   refine dO rfl rfl rfl (op_load_ref rfl rfl (by first | exact get_app (get_app hA) | exact get_app hA) ta151 rfl ⟨rfl, rfl⟩) ?_
   refine dO rfl rfl rfl (op_len_lst rfl Tryz.underlying151 rfl ⟨rfl, rfl⟩) <| dO rfl rfl rfl (op_cmp rfl rfl rfl (eq_cons) ⟨rfl, rfl⟩) <| dO rfl rfl rfl (op_move rfl rfl ⟨rfl, rfl⟩) ?_
   refine dOps_op rfl rfl (.cons (op_load_ref rfl rfl (get_app (get_app hC)) ta47 rfl ⟨rfl, rfl⟩) .nil) ?_
   refine dO rfl rfl rfl (op_load_ref rfl rfl (by first | exact get_app (get_app hB) | exact get_app hB | exact get_app (get_app (get_ne hab hB))) ta151 rfl ⟨rfl, rfl⟩) ?_
   refine dO rfl rfl rfl (op_indexAddr rfl Tryz.underlying151 sz154 (by decide) rfl rfl rfl (show _ = some (encR encC y) from rfl) ⟨rfl, rfl⟩) ?_
   refine dO rfl rfl rfl (op_fieldAddr_sptr rfl rfl fo154_0 ⟨rfl, rfl⟩) <| dO rfl rfl rfl (op_load_sptr rfl rfl ta44 rfl ⟨rfl, rfl⟩) <| dO rfl rfl rfl (op_load_ref rfl rfl (by first | exact get_app (get_app hA) | exact get_app hA) ta151 rfl ⟨rfl, rfl⟩) ?_
   refine dO rfl rfl rfl (op_indexAddr rfl Tryz.underlying151 sz154 (by decide) rfl rfl rfl (show _ = some (encR encC x) from rfl) ⟨rfl, rfl⟩) ?_
   refine dO rfl rfl rfl (op_fieldAddr_sptr rfl rfl fo154_0 ⟨rfl, rfl⟩) <| dO rfl rfl rfl (op_load_sptr rfl rfl ta44 rfl ⟨rfl, rfl⟩) <| dOps_op rfl rfl (.cons (op_call rfl rfl rfl hcc (hcmp y.1 x.1 _)) .nil) <| dO rfl rfl rfl (op_cmp rfl rfl rfl rfl ⟨rfl, rfl⟩) <| dO rfl rfl rfl (op_pick rfl rfl rfl ⟨rfl, rfl⟩) <| dO rfl rfl rfl (op_assign rfl rfl ⟨rfl, rfl⟩) <| dOps_nil ?_
   refine mwp_cond_split rfl (fun h58 => ?_) (fun h58 => ?_)
   ·
    have hgt : cmp y.1 x.1 < 0 := by simpa using h58
    have hst : stepE cmp (x :: ra, y :: rb) = (x :: ra, rb) := by rw [stepE, if_neg hlt, if_pos hgt]
    rw [mergeE, if_neg hlt, if_pos hgt] at he
    obtain ⟨hy, hnx⟩ := drop_cons_get he
    replace hy : ((mergeE cmp a b).map fun e => [encE encC e])[j]? = some [encE encC (y.1, y.2, none)] := by rw [List.getElem?_map, hy]; rfl
    have hjl := (List.getElem?_eq_some_iff.1 hy).1
    have hUB : U j = (T j).set idb (.cells [.lst none 3 (rb.map (encR encC))]) := by rw [hU, hst, set_self_ hA]
    refine mwp_draw [5, 6] [_, (T j ++ J) ++ [.cells [encC y.1, .sptr (encV y.2).cells, .ptr0]], (U j ++ J) ++ [.cells [encC y.1, .sptr (encV y.2).cells, .ptr0]]] mo (by decide) rfl rfl rfl rfl ?_
    refine dO rfl rfl rfl (op_load_ref rfl rfl (by first | exact get_app (get_app hB) | exact get_app hB | exact get_app (get_app (get_ne hab hB))) ta151 rfl ⟨rfl, rfl⟩) ?_
    refine dO rfl rfl rfl (op_indexAddr rfl Tryz.underlying151 sz154 (by decide) rfl rfl rfl (show _ = some (encR encC y) from rfl) ⟨rfl, rfl⟩) ?_
    refine dO rfl rfl rfl (op_load_sptr rfl rfl ta154 rfl ⟨rfl, rfl⟩) <| dOps_op rfl rfl (.cons (op_load_ref rfl rfl (by first | exact get_app (get_app hB) | exact get_app hB | exact get_app (get_app (get_ne hab hB))) ta151 rfl ⟨rfl, rfl⟩) (.cons (op_load_ref rfl rfl (by first | exact get_app (get_app hB) | exact get_app hB | exact get_app (get_app (get_ne hab hB))) ta151 rfl ⟨rfl, rfl⟩) (.nil))) ?_
    refine dOps_op rfl rfl (.cons (op_slice rfl Tryz.underlying151 sz154 rfl (.some rfl rfl) .none (by simp) (by simp) ⟨rfl, rfl⟩) (.cons (op_slice rfl Tryz.underlying151 sz154 rfl (.some rfl rfl) .none (by simp) (by simp) ⟨rfl, rfl⟩) (.nil))) ?_
    rw [drop1]
    refine dOps_eff rfl rfl rfl rfl (op_store_last rfl rfl rfl sz154 rfl rfl (Nat.le_of_ble_eq_true rfl) ⟨rfl, rfl⟩) <| dOps_eff rfl rfl rfl rfl (op_store_box rfl rfl rfl (by first | exact hB | exact get_ne hab hB) sz151 rfl rfl (Nat.le_of_ble_eq_true rfl) ⟨rfl, by rw [hUB]; rfl⟩) ?_
    refine dOps_nil <| mwp_seq ?_
    rcases Nat.lt_or_eq_of_le hj with hjm | hjm
    ·
     refine qR rfl <| qM rfl rfl rfl <| qO rfl <| op_load_ref rfl rfl (get_last2 hlT) ta154 rfl <| qO rfl <| (hyt j _ hjm hy).at2 rfl rfl rfl <| qO rfl <| op_not rfl rfl <| qN <| mwp_cond_f rfl (rfl) <| mwp_skip ?_
     refine ⟨⟨j + 1, J ++ [_]⟩, by dsimp only; omega, ⟨by dsimp only; omega, by dsimp only; rw [restE, hR, hst]; exact hnx⟩, List.append_assoc .., (.keep rfl (.keep rfl (.keep rfl (.keep rfl (.nil))))), (.nil)⟩
    ·
     refine qR rfl <| qM rfl rfl rfl <| qO rfl <| op_load_ref rfl rfl (get_last2 hlT) ta154 rfl <| qO rfl <| (hyf j _ hjm hy).at2 rfl rfl rfl <| qO rfl <| op_not rfl rfl <| qN <| mwp_cond_t rfl (rfl) <| mwp_ret ?_
     rw [List.append_assoc]
     exact ret_noneS (S' := T (j + 1)) (by simp) Tryz.results159 (by rw [(hok _).1, (hok _).1]; exact Nat.le_refl _) (hok _).2 ⟨rfl, by rw [hjm, if_pos (by omega)]⟩
   ·
    have hgt : ¬ cmp y.1 x.1 < 0 := by simpa using h58
    have hst : stepE cmp (x :: ra, y :: rb) = (ra, rb) := by rw [stepE, if_neg hlt, if_neg hgt]
    rw [mergeE, if_neg hlt, if_neg hgt] at he
    obtain ⟨hy, hnx⟩ := drop_cons_get he
    replace hy : ((mergeE cmp a b).map fun e => [encE encC e])[j]? = some [encE encC (x.1, x.2, some y.2)] := by rw [List.getElem?_map, hy]; rfl
    have hjl := (List.getElem?_eq_some_iff.1 hy).1
    have hUC : U j = ((T j).set ida (.cells [.lst none 3 (ra.map (encR encC))])).set idb (.cells [.lst none 3 (rb.map (encR encC))]) := by rw [hU, hst]
    refine mwp_draw [17, 18, 19] [_, (T j ++ J) ++ [.cells [encC x.1, .sptr (encV x.2).cells, .sptr (encV y.2).cells]], ((T j).set ida (.cells [.lst none 3 (ra.map (encR encC))]) ++ J) ++ [.cells [encC x.1, .sptr (encV x.2).cells, .sptr (encV y.2).cells]], (U j ++ J) ++ [.cells [encC x.1, .sptr (encV x.2).cells, .sptr (encV y.2).cells]]] mo (by decide) rfl rfl rfl rfl ?_
    refine dO rfl rfl rfl (op_load_ref rfl rfl (by first | exact get_app (get_app hA) | exact get_app hA) ta151 rfl ⟨rfl, rfl⟩) ?_
    refine dO rfl rfl rfl (op_indexAddr rfl Tryz.underlying151 sz154 (by decide) rfl rfl rfl (show _ = some (encR encC x) from rfl) ⟨rfl, rfl⟩) ?_
    refine dO rfl rfl rfl (op_fieldAddr_sptr rfl rfl fo154_0 ⟨rfl, rfl⟩) <| dO rfl rfl rfl (op_load_sptr rfl rfl ta44 rfl ⟨rfl, rfl⟩) <| dO rfl rfl rfl (op_load_ref rfl rfl (by first | exact get_app (get_app hA) | exact get_app hA) ta151 rfl ⟨rfl, rfl⟩) ?_
    refine dO rfl rfl rfl (op_indexAddr rfl Tryz.underlying151 sz154 (by decide) rfl rfl rfl (show _ = some (encR encC x) from rfl) ⟨rfl, rfl⟩) ?_
    refine dO rfl rfl rfl (op_fieldAddr_sptr rfl rfl fo154_1 ⟨rfl, rfl⟩) <| dO rfl rfl rfl (op_load_sptr rfl rfl ta145 rfl ⟨rfl, rfl⟩) <| dO rfl rfl rfl (op_load_ref rfl rfl (by first | exact get_app (get_app hB) | exact get_app hB | exact get_app (get_app (get_ne hab hB))) ta151 rfl ⟨rfl, rfl⟩) ?_
    refine dO rfl rfl rfl (op_indexAddr rfl Tryz.underlying151 sz154 (by decide) rfl rfl rfl (show _ = some (encR encC y) from rfl) ⟨rfl, rfl⟩) ?_
    refine dO rfl rfl rfl (op_fieldAddr_sptr rfl rfl fo154_1 ⟨rfl, rfl⟩) <| dO rfl rfl rfl (op_load_sptr rfl rfl ta145 rfl ⟨rfl, rfl⟩) <| dO rfl rfl rfl (op_build rfl Tryz.underlying154 zm154 (.cons fo154_0 sz44 rfl rfl (Nat.le_of_ble_eq_true rfl) (.cons fo154_1 sz145 rfl rfl (Nat.le_of_ble_eq_true rfl) (.cons fo154_2 sz145 rfl rfl (Nat.le_of_ble_eq_true rfl) .nil))) (by kernel_rfl) ⟨rfl, rfl⟩) ?_
    refine dOps_op rfl rfl (.cons (op_load_ref rfl rfl (by first | exact get_app (get_app hA) | exact get_app hA) ta151 rfl ⟨rfl, rfl⟩) (.cons (op_load_ref rfl rfl (by first | exact get_app (get_app hA) | exact get_app hA) ta151 rfl ⟨rfl, rfl⟩) (.nil))) ?_
    refine dOps_op rfl rfl (.cons (op_slice rfl Tryz.underlying151 sz154 rfl (.some rfl rfl) .none (by simp) (by simp) ⟨rfl, rfl⟩) (.cons (op_slice rfl Tryz.underlying151 sz154 rfl (.some rfl rfl) .none (by simp) (by simp) ⟨rfl, rfl⟩) (.nil))) ?_
    rw [drop1]
    refine dOps_op rfl rfl (.cons (op_load_ref rfl rfl (by first | exact get_app (get_app hB) | exact get_app hB | exact get_app (get_app (get_ne hab hB))) ta151 rfl ⟨rfl, rfl⟩) (.cons (op_load_ref rfl rfl (by first | exact get_app (get_app hB) | exact get_app hB | exact get_app (get_app (get_ne hab hB))) ta151 rfl ⟨rfl, rfl⟩) (.cons (op_load_ref rfl rfl (by first | exact get_app (get_app hB) | exact get_app hB | exact get_app (get_app (get_ne hab hB))) ta151 rfl ⟨rfl, rfl⟩) (.nil)))) ?_
    refine dOps_op rfl rfl (.cons (op_slice rfl Tryz.underlying151 sz154 rfl (.some rfl rfl) .none (by simp) (by simp) ⟨rfl, rfl⟩) (.cons (op_slice rfl Tryz.underlying151 sz154 rfl (.some rfl rfl) .none (by simp) (by simp) ⟨rfl, rfl⟩) (.cons (op_slice rfl Tryz.underlying151 sz154 rfl (.some rfl rfl) .none (by simp) (by simp) ⟨rfl, rfl⟩) (.nil)))) ?_
    rw [drop1]
    refine dOps_eff rfl rfl rfl rfl (op_store_last rfl rfl rfl sz154 rfl rfl (Nat.le_of_ble_eq_true rfl) ⟨rfl, rfl⟩) <| dOps_eff rfl rfl rfl rfl (op_store_box rfl rfl rfl (hA) sz151 rfl rfl (Nat.le_of_ble_eq_true rfl) ⟨rfl, rfl⟩) <| dOps_eff rfl rfl rfl rfl (op_store_box rfl rfl rfl (by first | exact hB | exact get_ne hab hB) sz151 rfl rfl (Nat.le_of_ble_eq_true rfl) ⟨rfl, by rw [hUC]; rfl⟩) ?_
    refine dOps_nil <| mwp_seq ?_
    rcases Nat.lt_or_eq_of_le hj with hjm | hjm
    ·
     refine qR rfl <| qM rfl rfl rfl <| qO rfl <| op_load_ref rfl rfl (get_last2 hlT) ta154 rfl <| qO rfl <| (hyt j _ hjm hy).at2 rfl rfl rfl <| qO rfl <| op_not rfl rfl <| qN <| mwp_cond_f rfl (rfl) <| mwp_skip ?_
     refine ⟨⟨j + 1, J ++ [_]⟩, by dsimp only; omega, ⟨by dsimp only; omega, by dsimp only; rw [restE, hR, hst]; exact hnx⟩, List.append_assoc .., (.keep rfl (.keep rfl (.keep rfl (.keep rfl (.nil))))), (.nil)⟩
    ·
     refine qR rfl <| qM rfl rfl rfl <| qO rfl <| op_load_ref rfl rfl (get_last2 hlT) ta154 rfl <| qO rfl <| (hyf j _ hjm hy).at2 rfl rfl rfl <| qO rfl <| op_not rfl rfl <| qN <| mwp_cond_t rfl (rfl) <| mwp_ret ?_
     rw [List.append_assoc]
     exact ret_noneS (S' := T (j + 1)) (by simp) Tryz.results159 (by rw [(hok _).1, (hok _).1]; exact Nat.le_refl _) (hok _).2 ⟨rfl, by rw [hjm, if_pos (by omega)]⟩
theorem xmerged_iter (cmp : Bs → Bs → Int) (kc : FuncId) (hcc : CallOk Tryz.prog kc) (hcmp : ∀ (k1 k2 : Bs) (S : MS), MCalls Tryz.prog kc ([] ++ [encX k1, encX k2] ++ []) S fun v σ' => v = .int .i64 (cmp k1 k2) ∧ σ' = S) (a b : List (REnt (Bs))) (ida idb idc l0 : Nat) (hab : ida ≠ idb) :
  IterOk2 Tryz.prog 152 [] [.ref ida 0, .ref idb 0, .ref idc 0] ((mergeE cmp a b).map fun e => [encE encX e]) (fun σ => σ.length = l0 ∧ ClS σ) (fun j σ τ => σ[ida]? = some (.cells [.lst none 3 ((restE cmp a b j).1.map (encR encX))]) ∧ σ[idb]? = some (.cells [.lst none 3 ((restE cmp a b j).2.map (encR encX))]) ∧ σ[idc]? = some (.cells [.fn (.func kc) [] []]) ∧ τ = (σ.set ida (.cells [.lst none 3 ((restE cmp a b (j + 1)).1.map (encR encX))])).set idb (.cells [.lst none 3 ((restE cmp a b (j + 1)).2.map (encR encX))])) := by
 refine iterOk2_of fun id T U m hok hoku hm hyt hyf => ?_
 have hml : ((mergeE cmp a b).map fun e => [encE encX e]).length = (mergeE cmp a b).length := List.length_map ..
 refine mcalls_body Tryz.func152 rfl Tryz.ntmps152 (Nat.le_of_ble_eq_true rfl) ?_
 rw [List.append_nil]
 show mwp _ _ _ _ _ _ _ (([] : MS) ++ T 0)
 refine mwp_block ?_
 refine mwp_loopK (α := Nat × MS) [(0, _), (1, _), (2, _), (3, _)] (fun x => []) (fun x => T x.1 ++ x.2) (fun x => x.1 ≤ m ∧ mergeE cmp (restE cmp a b x.1).1 (restE cmp a b x.1).2 = (mergeE cmp a b).drop x.1) (fun x => m + 1 - x.1) (⟨0, []⟩) (.keep rfl (.keep rfl (.keep rfl (.keep rfl (.nil))))) (.nil) (⟨by simp, rfl⟩) (by rw [List.append_nil]) ?_
 rintro ⟨j, J⟩ ⟨hj, he⟩
 dsimp only at hj he ⊢
 show mwp _ _ _ _ _ _ _ (T j ++ J)
 obtain ⟨hA, hB, hC, hU⟩ := hoku j hj
 obtain ⟨⟨ra, rb⟩, hR⟩ : ∃ p, restE cmp a b j = p := ⟨_, rfl⟩
 rw [restE, hR] at hU
 rw [hR] at hA hB he
 dsimp only at hA hB he
 have hlT : (U j).length = (T j).length := by rw [hU]; simp
 refine mwp_seq <| mwp_seq ?_
 rcases ra with _ | ⟨x, ra⟩ <;> rcases rb with _ | ⟨y, rb⟩
 ·
  rw [mergeE] at he
  have hdl := drop_nil_len he
  have hjm : j = m := by omega
  refine qR rfl <| qO rfl <| op_load_ref rfl rfl (by first | exact get_app (get_app hA) | exact get_app hA) ta142 rfl ?_
  refine qE rfl rfl Tryz.underlying142 rfl <| qC rfl rfl rfl rfl (gt_nil) <| qM rfl rfl rfl <| qO rfl <| op_load_ref rfl rfl (by first | exact get_app (get_app hB) | exact get_app hB | exact get_app (get_app (get_ne hab hB))) ta142 rfl ?_
  refine qE rfl rfl Tryz.underlying142 rfl <| qC rfl rfl rfl rfl (gt_nil) <| qP rfl rfl rfl rfl <| qN <| mwp_cond_f rfl (rfl) <| mwp_exit ?_
  exact ret_noneS (S' := T j) (by simp) Tryz.results152 (by rw [(hok _).1, (hok _).1]; exact Nat.le_refl _) (hok _).2 ⟨rfl, by rw [hjm, if_neg (by omega)]⟩
 ·
  refine qR rfl <| qO rfl <| op_load_ref rfl rfl (by first | exact get_app (get_app hA) | exact get_app hA) ta142 rfl ?_
  refine qE rfl rfl Tryz.underlying142 rfl <| qC rfl rfl rfl rfl (gt_nil) <| qM rfl rfl rfl <| qO rfl <| op_load_ref rfl rfl (by first | exact get_app (get_app hB) | exact get_app hB | exact get_app (get_app (get_ne hab hB))) ta142 rfl ?_
  refine qE rfl rfl Tryz.underlying142 rfl <| qC rfl rfl rfl rfl (gt_cons) <| qP rfl rfl rfl rfl <| qN <| mwp_cond_t rfl (rfl) <| mwp_skip <| mwp_block <| mwp_seq <| qR rfl <| qO rfl <| op_alloc rfl zm147 <| qN <| mwp_seq <| mwp_block <| mwp_seq ?_
  refine mwp_draw [] [_] mo (by decide) rfl rfl rfl rfl ?_
  refine dO rfl rfl rfl (op_load_ref rfl rfl (by first | exact get_app (get_app hB) | exact get_app hB | exact get_app (get_app (get_ne hab hB))) ta142 rfl ⟨rfl, rfl⟩) ?_
  refine dO rfl rfl rfl (op_len_lst rfl Tryz.underlying142 rfl ⟨rfl, rfl⟩) <| dO rfl rfl rfl (op_cmp rfl rfl rfl (eq_cons) ⟨rfl, rfl⟩) <| dO rfl rfl rfl (op_move rfl rfl ⟨rfl, rfl⟩) <| dO rfl rfl rfl (op_load_ref rfl rfl (by first | exact get_app (get_app hA) | exact get_app hA) ta142 rfl ⟨rfl, rfl⟩) ?_
  refine dO rfl rfl rfl (op_len_lst rfl Tryz.underlying142 rfl ⟨rfl, rfl⟩) <| dO rfl rfl rfl (op_cmp rfl rfl rfl (gt_nil) ⟨rfl, rfl⟩) <| dO rfl rfl rfl (op_move rfl rfl ⟨rfl, rfl⟩) <| dS rfl rfl <| dS rfl rfl <| dS rfl rfl <| dS rfl rfl <| dS rfl rfl <| dS rfl rfl <| dS rfl rfl <| dS rfl rfl <| dS rfl rfl <| dS rfl rfl <| dS rfl rfl <| dO rfl rfl rfl (op_pick rfl rfl rfl ⟨rfl, rfl⟩) <| dO rfl rfl rfl (op_pick rfl rfl rfl ⟨rfl, rfl⟩) <| dO rfl rfl rfl (op_assign rfl rfl ⟨rfl, rfl⟩) <| dOps_nil <| mwp_cond_f rfl (rfl) <| mwp_seq ?_
  refine mwp_draw [] [_] mo (by decide) rfl rfl rfl rfl ?_
  refine dO rfl rfl rfl (op_load_ref rfl rfl (by first | exact get_app (get_app hA) | exact get_app hA) ta142 rfl ⟨rfl, rfl⟩) ?_
  refine dO rfl rfl rfl (op_len_lst rfl Tryz.underlying142 rfl ⟨rfl, rfl⟩) <| dO rfl rfl rfl (op_cmp rfl rfl rfl (eq_nil) ⟨rfl, rfl⟩) <| dO rfl rfl rfl (op_move rfl rfl ⟨rfl, rfl⟩) <| dS rfl rfl <| dS rfl rfl <| dS rfl rfl <| dS rfl rfl <| dS rfl rfl <| dS rfl rfl <| dS rfl rfl <| dS rfl rfl <| dS rfl rfl <| dS rfl rfl <| dS rfl rfl <| dO rfl rfl rfl (op_pick rfl rfl rfl ⟨rfl, rfl⟩) <| dO rfl rfl rfl (op_assign rfl rfl ⟨rfl, rfl⟩) <| dOps_nil <| mwp_cond_t rfl (rfl) ?_
  have hst : stepE cmp ([], y :: rb) = ([], rb) := by rw [stepE]
  rw [mergeE] at he
  obtain ⟨hy, hnx⟩ := drop_cons_get he
  replace hy : ((mergeE cmp a b).map fun e => [encE encX e])[j]? = some [encE encX (y.1, y.2, none)] := by rw [List.getElem?_map, hy]; rfl
  have hjl := (List.getElem?_eq_some_iff.1 hy).1
  have hUB : U j = (T j).set idb (.cells [.lst none 3 (rb.map (encR encX))]) := by rw [hU, hst, set_self_ hA]
  refine mwp_draw [5, 6] [_, (T j ++ J) ++ [.cells [encX y.1, .sptr (encV y.2).cells, .ptr0]], (U j ++ J) ++ [.cells [encX y.1, .sptr (encV y.2).cells, .ptr0]]] mo (by decide) rfl rfl rfl rfl ?_
  refine dO rfl rfl rfl (op_load_ref rfl rfl (by first | exact get_app (get_app hB) | exact get_app hB | exact get_app (get_app (get_ne hab hB))) ta142 rfl ⟨rfl, rfl⟩) ?_
  refine dO rfl rfl rfl (op_indexAddr rfl Tryz.underlying142 sz147 (by decide) rfl rfl rfl (show _ = some (encR encX y) from rfl) ⟨rfl, rfl⟩) ?_
  refine dO rfl rfl rfl (op_load_sptr rfl rfl ta147 rfl ⟨rfl, rfl⟩) <| dOps_op rfl rfl (.cons (op_load_ref rfl rfl (by first | exact get_app (get_app hB) | exact get_app hB | exact get_app (get_app (get_ne hab hB))) ta142 rfl ⟨rfl, rfl⟩) (.cons (op_load_ref rfl rfl (by first | exact get_app (get_app hB) | exact get_app hB | exact get_app (get_app (get_ne hab hB))) ta142 rfl ⟨rfl, rfl⟩) (.nil))) ?_
  refine dOps_op rfl rfl (.cons (op_slice rfl Tryz.underlying142 sz147 rfl (.some rfl rfl) .none (by simp) (by simp) ⟨rfl, rfl⟩) (.cons (op_slice rfl Tryz.underlying142 sz147 rfl (.some rfl rfl) .none (by simp) (by simp) ⟨rfl, rfl⟩) (.nil))) ?_
  rw [drop1]
  refine dOps_eff rfl rfl rfl rfl (op_store_last rfl rfl rfl sz147 rfl rfl (Nat.le_of_ble_eq_true rfl) ⟨rfl, rfl⟩) <| dOps_eff rfl rfl rfl rfl (op_store_box rfl rfl rfl (by first | exact hB | exact get_ne hab hB) sz142 rfl rfl (Nat.le_of_ble_eq_true rfl) ⟨rfl, by rw [hUB]; rfl⟩) ?_
  refine dOps_nil <| mwp_seq ?_
  rcases Nat.lt_or_eq_of_le hj with hjm | hjm
  ·
   refine qR rfl <| qM rfl rfl rfl <| qO rfl <| op_load_ref rfl rfl (get_last2 hlT) ta147 rfl <| qO rfl <| (hyt j _ hjm hy).at2 rfl rfl rfl <| qO rfl <| op_not rfl rfl <| qN <| mwp_cond_f rfl (rfl) <| mwp_skip ?_
   refine ⟨⟨j + 1, J ++ [_]⟩, by dsimp only; omega, ⟨by dsimp only; omega, by dsimp only; rw [restE, hR, hst]; exact hnx⟩, List.append_assoc .., (.keep rfl (.keep rfl (.keep rfl (.keep rfl (.nil))))), (.nil)⟩
  ·
   refine qR rfl <| qM rfl rfl rfl <| qO rfl <| op_load_ref rfl rfl (get_last2 hlT) ta147 rfl <| qO rfl <| (hyf j _ hjm hy).at2 rfl rfl rfl <| qO rfl <| op_not rfl rfl <| qN <| mwp_cond_t rfl (rfl) <| mwp_ret ?_
   rw [List.append_assoc]
   exact ret_noneS (S' := T (j + 1)) (by simp) Tryz.results152 (by rw [(hok _).1, (hok _).1]; exact Nat.le_refl _) (hok _).2 ⟨rfl, by rw [hjm, if_pos (by omega)]⟩
 ·
  refine qR rfl <| qO rfl <| op_load_ref rfl rfl (by first | exact get_app (get_app hA) | exact get_app hA) ta142 rfl ?_
  refine qE rfl rfl Tryz.underlying142 rfl <| qC rfl rfl rfl rfl (gt_cons) <| qM rfl rfl rfl <| qS rfl <| qS rfl <| qS rfl <| qP rfl rfl rfl rfl <| qN <| mwp_cond_t rfl (rfl) <| mwp_skip <| mwp_block <| mwp_seq <| qR rfl <| qO rfl <| op_alloc rfl zm147 <| qN <| mwp_seq <| mwp_block <| mwp_seq ?_
  refine mwp_draw [] [_] mo (by decide) rfl rfl rfl rfl ?_
  refine dO rfl rfl rfl (op_load_ref rfl rfl (by first | exact get_app (get_app hB) | exact get_app hB | exact get_app (get_app (get_ne hab hB))) ta142 rfl ⟨rfl, rfl⟩) ?_
  refine dO rfl rfl rfl (op_len_lst rfl Tryz.underlying142 rfl ⟨rfl, rfl⟩) <| dO rfl rfl rfl (op_cmp rfl rfl rfl (eq_nil) ⟨rfl, rfl⟩) <| dO rfl rfl rfl (op_move rfl rfl ⟨rfl, rfl⟩) <| dS rfl rfl <| dS rfl rfl <| dS rfl rfl <| dS rfl rfl <| dS rfl rfl <| dS rfl rfl <| dS rfl rfl <| dS rfl rfl <| dS rfl rfl <| dS rfl rfl <| dS rfl rfl <| dS rfl rfl <| dS rfl rfl <| dS rfl rfl <| dS rfl rfl <| dS rfl rfl <| dO rfl rfl rfl (op_pick rfl rfl rfl ⟨rfl, rfl⟩) <| dO rfl rfl rfl (op_assign rfl rfl ⟨rfl, rfl⟩) <| dOps_nil <| mwp_cond_t rfl (rfl) ?_
  have hst : stepE cmp (x :: ra, []) = (ra, []) := by rw [stepE]
  rw [mergeE] at he
  obtain ⟨hy, hnx⟩ := drop_cons_get he
  replace hy : ((mergeE cmp a b).map fun e => [encE encX e])[j]? = some [encE encX (x.1, x.2, none)] := by rw [List.getElem?_map, hy]; rfl
  have hjl := (List.getElem?_eq_some_iff.1 hy).1
  have hUA : U j = (T j).set ida (.cells [.lst none 3 (ra.map (encR encX))]) := by rw [hU, hst]; exact set_self_ (get_ne hab hB)
  refine mwp_draw [5, 6] [_, (T j ++ J) ++ [.cells [encX x.1, .sptr (encV x.2).cells, .ptr0]], (U j ++ J) ++ [.cells [encX x.1, .sptr (encV x.2).cells, .ptr0]]] mo (by decide) rfl rfl rfl rfl ?_
  refine dO rfl rfl rfl (op_load_ref rfl rfl (by first | exact get_app (get_app hA) | exact get_app hA) ta142 rfl ⟨rfl, rfl⟩) ?_
  refine dO rfl rfl rfl (op_indexAddr rfl Tryz.underlying142 sz147 (by decide) rfl rfl rfl (show _ = some (encR encX x) from rfl) ⟨rfl, rfl⟩) ?_
  refine dO rfl rfl rfl (op_load_sptr rfl rfl ta147 rfl ⟨rfl, rfl⟩) <| dOps_op rfl rfl (.cons (op_load_ref rfl rfl (by first | exact get_app (get_app hA) | exact get_app hA) ta142 rfl ⟨rfl, rfl⟩) (.cons (op_load_ref rfl rfl (by first | exact get_app (get_app hA) | exact get_app hA) ta142 rfl ⟨rfl, rfl⟩) (.nil))) ?_
  refine dOps_op rfl rfl (.cons (op_slice rfl Tryz.underlying142 sz147 rfl (.some rfl rfl) .none (by simp) (by simp) ⟨rfl, rfl⟩) (.cons (op_slice rfl Tryz.underlying142 sz147 rfl (.some rfl rfl) .none (by simp) (by simp) ⟨rfl, rfl⟩) (.nil))) ?_
  rw [drop1]
  refine dOps_eff rfl rfl rfl rfl (op_store_last rfl rfl rfl sz147 rfl rfl (Nat.le_of_ble_eq_true rfl) ⟨rfl, rfl⟩) <| dOps_eff rfl rfl rfl rfl (op_store_box rfl rfl rfl (hA) sz142 rfl rfl (Nat.le_of_ble_eq_true rfl) ⟨rfl, by rw [hUA]; rfl⟩) ?_
  refine dOps_nil <| mwp_seq ?_
  rcases Nat.lt_or_eq_of_le hj with hjm | hjm
  ·
   refine qR rfl <| qM rfl rfl rfl <| qO rfl <| op_load_ref rfl rfl (get_last2 hlT) ta147 rfl <| qO rfl <| (hyt j _ hjm hy).at2 rfl rfl rfl <| qO rfl <| op_not rfl rfl <| qN <| mwp_cond_f rfl (rfl) <| mwp_skip ?_
   refine ⟨⟨j + 1, J ++ [_]⟩, by dsimp only; omega, ⟨by dsimp only; omega, by dsimp only; rw [restE, hR, hst]; exact hnx⟩, List.append_assoc .., (.keep rfl (.keep rfl (.keep rfl (.keep rfl (.nil))))), (.nil)⟩
  ·
   refine qR rfl <| qM rfl rfl rfl <| qO rfl <| op_load_ref rfl rfl (get_last2 hlT) ta147 rfl <| qO rfl <| (hyf j _ hjm hy).at2 rfl rfl rfl <| qO rfl <| op_not rfl rfl <| qN <| mwp_cond_t rfl (rfl) <| mwp_ret ?_
   rw [List.append_assoc]
   exact ret_noneS (S' := T (j + 1)) (by simp) Tryz.results152 (by rw [(hok _).1, (hok _).1]; exact Nat.le_refl _) (hok _).2 ⟨rfl, by rw [hjm, if_pos (by omega)]⟩
 ·
  refine qR rfl <| qO rfl <| op_load_ref rfl rfl (by first | exact get_app (get_app hA) | exact get_app hA) ta142 rfl ?_
  refine qE rfl rfl Tryz.underlying142 rfl <| qC rfl rfl rfl rfl (gt_cons) <| qM rfl rfl rfl <| qS rfl <| qS rfl <| qS rfl <| qP rfl rfl rfl rfl <| qN <| mwp_cond_t rfl (rfl) <| mwp_skip <| mwp_block <| mwp_seq <| qR rfl <| qO rfl <| op_alloc rfl zm147 <| qN <| mwp_seq <| mwp_block <| mwp_seq ?_
  refine mwp_draw [] [_] mo (by decide) rfl rfl rfl rfl ?_
  refine dO rfl rfl rfl (op_load_ref rfl rfl (by first | exact get_app (get_app hB) | exact get_app hB | exact get_app (get_app (get_ne hab hB))) ta142 rfl ⟨rfl, rfl⟩) ?_
  refine dO rfl rfl rfl (op_len_lst rfl Tryz.underlying142 rfl ⟨rfl, rfl⟩) <| dO rfl rfl rfl (op_cmp rfl rfl rfl (eq_cons) ⟨rfl, rfl⟩) <| dO rfl rfl rfl (op_move rfl rfl ⟨rfl, rfl⟩) <| dO rfl rfl rfl (op_load_ref rfl rfl (by first | exact get_app (get_app hA) | exact get_app hA) ta142 rfl ⟨rfl, rfl⟩) ?_
  refine dO rfl rfl rfl (op_len_lst rfl Tryz.underlying142 rfl ⟨rfl, rfl⟩) <| dO rfl rfl rfl (op_cmp rfl rfl rfl (gt_cons) ⟨rfl, rfl⟩) <| dO rfl rfl rfl (op_move rfl rfl ⟨rfl, rfl⟩) ?_
  refine dOps_op rfl rfl (.cons (op_load_ref rfl rfl (get_app (get_app hC)) ta144 rfl ⟨rfl, rfl⟩) .nil) ?_
  refine dO rfl rfl rfl (op_load_ref rfl rfl (by first | exact get_app (get_app hA) | exact get_app hA) ta142 rfl ⟨rfl, rfl⟩) ?_
  refine dO rfl rfl rfl (op_indexAddr rfl Tryz.underlying142 sz147 (by decide) rfl rfl rfl (show _ = some (encR encX x) from rfl) ⟨rfl, rfl⟩) ?_
  refine dO rfl rfl rfl (op_fieldAddr_sptr rfl rfl fo147_0 ⟨rfl, rfl⟩) <| dO rfl rfl rfl (op_load_sptr rfl rfl ta9 rfl ⟨rfl, rfl⟩) <| dO rfl rfl rfl (op_load_ref rfl rfl (by first | exact get_app (get_app hB) | exact get_app hB | exact get_app (get_app (get_ne hab hB))) ta142 rfl ⟨rfl, rfl⟩) ?_
  refine dO rfl rfl rfl (op_indexAddr rfl Tryz.underlying142 sz147 (by decide) rfl rfl rfl (show _ = some (encR encX y) from rfl) ⟨rfl, rfl⟩) ?_
  refine dO rfl rfl rfl (op_fieldAddr_sptr rfl rfl fo147_0 ⟨rfl, rfl⟩) <| dO rfl rfl rfl (op_load_sptr rfl rfl ta9 rfl ⟨rfl, rfl⟩) <| dOps_op rfl rfl (.cons (op_call rfl rfl rfl hcc (hcmp x.1 y.1 _)) .nil) <| dO rfl rfl rfl (op_cmp rfl rfl rfl rfl ⟨rfl, rfl⟩) <| dO rfl rfl rfl (op_pick rfl rfl rfl ⟨rfl, rfl⟩) <| dO rfl rfl rfl (op_pick rfl rfl rfl ⟨rfl, rfl⟩) <| dO rfl rfl rfl (op_assign rfl rfl ⟨rfl, rfl⟩) <| dOps_nil ?_
  refine mwp_cond_split rfl (fun h31 => ?_) (fun h31 => ?_)
  ·
   have hlt : cmp x.1 y.1 < 0 := by simpa using h31
   have hst : stepE cmp (x :: ra, y :: rb) = (ra, y :: rb) := by rw [stepE, if_pos hlt]
   rw [mergeE, if_pos hlt] at he
   obtain ⟨hy, hnx⟩ := drop_cons_get he
   replace hy : ((mergeE cmp a b).map fun e => [encE encX e])[j]? = some [encE encX (x.1, x.2, none)] := by rw [List.getElem?_map, hy]; rfl
   have hjl := (List.getElem?_eq_some_iff.1 hy).1
   have hUA : U j = (T j).set ida (.cells [.lst none 3 (ra.map (encR encX))]) := by rw [hU, hst]; exact set_self_ (get_ne hab hB)
   refine mwp_draw [5, 6] [_, (T j ++ J) ++ [.cells [encX x.1, .sptr (encV x.2).cells, .ptr0]], (U j ++ J) ++ [.cells [encX x.1, .sptr (encV x.2).cells, .ptr0]]] mo (by decide) rfl rfl rfl rfl ?_
   refine dO rfl rfl rfl (op_load_ref rfl rfl (by first | exact get_app (get_app hA) | exact get_app hA) ta142 rfl ⟨rfl, rfl⟩) ?_
   refine dO rfl rfl rfl (op_indexAddr rfl Tryz.underlying142 sz147 (by decide) rfl rfl rfl (show _ = some (encR encX x) from rfl) ⟨rfl, rfl⟩) ?_
   refine dO rfl rfl rfl (op_load_sptr rfl rfl ta147 rfl ⟨rfl, rfl⟩) <| dOps_op rfl rfl (.cons (op_load_ref rfl rfl (by first | exact get_app (get_app hA) | exact get_app hA) ta142 rfl ⟨rfl, rfl⟩) (.cons (op_load_ref rfl rfl (by first | exact get_app (get_app hA) | exact get_app hA) ta142 rfl ⟨rfl, rfl⟩) (.nil))) ?_
   refine dOps_op rfl rfl (.cons (op_slice rfl Tryz.underlying142 sz147 rfl (.some rfl rfl) .none (by simp) (by simp) ⟨rfl, rfl⟩) (.cons (op_slice rfl Tryz.underlying142 sz147 rfl (.some rfl rfl) .none (by simp) (by simp) ⟨rfl, rfl⟩) (.nil))) ?_
   rw [drop1]
   refine dOps_eff rfl rfl rfl rfl (op_store_last rfl rfl rfl sz147 rfl rfl (Nat.le_of_ble_eq_true rfl) ⟨rfl, rfl⟩) <| dOps_eff rfl rfl rfl rfl (op_store_box rfl rfl rfl (hA) sz142 rfl rfl (Nat.le_of_ble_eq_true rfl) ⟨rfl, by rw [hUA]; rfl⟩) ?_
   refine dOps_nil <| mwp_seq ?_
   rcases Nat.lt_or_eq_of_le hj with hjm | hjm
   ·
    refine qR rfl <| qM rfl rfl rfl <| qO rfl <| op_load_ref rfl rfl (get_last2 hlT) ta147 rfl <| qO rfl <| (hyt j _ hjm hy).at2 rfl rfl rfl <| qO rfl <| op_not rfl rfl <| qN <| mwp_cond_f rfl (rfl) <| mwp_skip ?_
    refine ⟨⟨j + 1, J ++ [_]⟩, by dsimp only; omega, ⟨by dsimp only; omega, by dsimp only; rw [restE, hR, hst]; exact hnx⟩, List.append_assoc .., (.keep rfl (.keep rfl (.keep rfl (.keep rfl (.nil))))), (.nil)⟩
   ·
    refine qR rfl <| qM rfl rfl rfl <| qO rfl <| op_load_ref rfl rfl (get_last2 hlT) ta147 rfl <| qO rfl <| (hyf j _ hjm hy).at2 rfl rfl rfl <| qO rfl <| op_not rfl rfl <| qN <| mwp_cond_t rfl (rfl) <| mwp_ret ?_
    rw [List.append_assoc]
    exact ret_noneS (S' := T (j + 1)) (by simp) Tryz.results152 (by rw [(hok _).1, (hok _).1]; exact Nat.le_refl _) (hok _).2 ⟨rfl, by rw [hjm, if_pos (by omega)]⟩
  ·
   have hlt : ¬ cmp x.1 y.1 < 0 := by simpa using h31
   refine mwp_seq ?_
   refine mwp_draw [] [_] mo (by decide) rfl rfl rfl rfl ?_
   refine dO rfl rfl rfl (op_load_ref rfl rfl (by first | exact get_app (get_app hA) | exact get_app hA) ta142 rfl ⟨rfl, rfl⟩) ?_
   refine dO rfl rfl rfl (op_len_lst rfl Tryz.underlying142 rfl ⟨rfl, rfl⟩) <| dO rfl rfl rfl (op_cmp rfl rfl rfl (eq_cons) ⟨rfl, rfl⟩) <| dO rfl rfl rfl (op_move rfl rfl ⟨rfl, rfl⟩) ?_
   refine dOps_op rfl rfl (.cons (op_load_ref rfl rfl (get_app (get_app hC)) ta144 rfl ⟨rfl, rfl⟩) .nil) ?_
   refine dO rfl rfl rfl (op_load_ref rfl rfl (by first | exact get_app (get_app hB) | exact get_app hB | exact get_app (get_app (get_ne hab hB))) ta142 rfl ⟨rfl, rfl⟩) ?_
   refine dO rfl rfl rfl (op_indexAddr rfl Tryz.underlying142 sz147 (by decide) rfl rfl rfl (show _ = some (encR encX y) from rfl) ⟨rfl, rfl⟩) ?_
   refine dO rfl rfl rfl (op_fieldAddr_sptr rfl rfl fo147_0 ⟨rfl, rfl⟩) <| dO rfl rfl rfl (op_load_sptr rfl rfl ta9 rfl ⟨rfl, rfl⟩) <| dO rfl rfl rfl (op_load_ref rfl rfl (by first | exact get_app (get_app hA) | exact get_app hA) ta142 rfl ⟨rfl, rfl⟩) ?_
   refine dO rfl rfl rfl (op_indexAddr rfl Tryz.underlying142 sz147 (by decide) rfl rfl rfl (show _ = some (encR encX x) from rfl) ⟨rfl, rfl⟩) ?_
   refine dO rfl rfl rfl (op_fieldAddr_sptr rfl rfl fo147_0 ⟨rfl, rfl⟩) <| dO rfl rfl rfl (op_load_sptr rfl rfl ta9 rfl ⟨rfl, rfl⟩) <| dOps_op rfl rfl (.cons (op_call rfl rfl rfl hcc (hcmp y.1 x.1 _)) .nil) <| dO rfl rfl rfl (op_cmp rfl rfl rfl rfl ⟨rfl, rfl⟩) <| dO rfl rfl rfl (op_pick rfl rfl rfl ⟨rfl, rfl⟩) <| dO rfl rfl rfl (op_assign rfl rfl ⟨rfl, rfl⟩) <| dOps_nil ?_
   refine mwp_cond_split rfl (fun h58 => ?_) (fun h58 => ?_)
   ·
    have hgt : cmp y.1 x.1 < 0 := by simpa using h58
    have hst : stepE cmp (x :: ra, y :: rb) = (x :: ra, rb) := by rw [stepE, if_neg hlt, if_pos hgt]
    rw [mergeE, if_neg hlt, if_pos hgt] at he
    obtain ⟨hy, hnx⟩ := drop_cons_get he
    replace hy : ((mergeE cmp a b).map fun e => [encE encX e])[j]? = some [encE encX (y.1, y.2, none)] := by rw [List.getElem?_map, hy]; rfl
    have hjl := (List.getElem?_eq_some_iff.1 hy).1
    have hUB : U j = (T j).set idb (.cells [.lst none 3 (rb.map (encR encX))]) := by rw [hU, hst, set_self_ hA]
    refine mwp_draw [5, 6] [_, (T j ++ J) ++ [.cells [encX y.1, .sptr (encV y.2).cells, .ptr0]], (U j ++ J) ++ [.cells [encX y.1, .sptr (encV y.2).cells, .ptr0]]] mo (by decide) rfl rfl rfl rfl ?_
    refine dO rfl rfl rfl (op_load_ref rfl rfl (by first | exact get_app (get_app hB) | exact get_app hB | exact get_app (get_app (get_ne hab hB))) ta142 rfl ⟨rfl, rfl⟩) ?_
    refine dO rfl rfl rfl (op_indexAddr rfl Tryz.underlying142 sz147 (by decide) rfl rfl rfl (show _ = some (encR encX y) from rfl) ⟨rfl, rfl⟩) ?_
    refine dO rfl rfl rfl (op_load_sptr rfl rfl ta147 rfl ⟨rfl, rfl⟩) <| dOps_op rfl rfl (.cons (op_load_ref rfl rfl (by first | exact get_app (get_app hB) | exact get_app hB | exact get_app (get_app (get_ne hab hB))) ta142 rfl ⟨rfl, rfl⟩) (.cons (op_load_ref rfl rfl (by first | exact get_app (get_app hB) | exact get_app hB | exact get_app (get_app (get_ne hab hB))) ta142 rfl ⟨rfl, rfl⟩) (.nil))) ?_
    refine dOps_op rfl rfl (.cons (op_slice rfl Tryz.underlying142 sz147 rfl (.some rfl rfl) .none (by simp) (by simp) ⟨rfl, rfl⟩) (.cons (op_slice rfl Tryz.underlying142 sz147 rfl (.some rfl rfl) .none (by simp) (by simp) ⟨rfl, rfl⟩) (.nil))) ?_
    rw [drop1]
    refine dOps_eff rfl rfl rfl rfl (op_store_last rfl rfl rfl sz147 rfl rfl (Nat.le_of_ble_eq_true rfl) ⟨rfl, rfl⟩) <| dOps_eff rfl rfl rfl rfl (op_store_box rfl rfl rfl (by first | exact hB | exact get_ne hab hB) sz142 rfl rfl (Nat.le_of_ble_eq_true rfl) ⟨rfl, by rw [hUB]; rfl⟩) ?_
    refine dOps_nil <| mwp_seq ?_
    rcases Nat.lt_or_eq_of_le hj with hjm | hjm
    ·
     refine qR rfl <| qM rfl rfl rfl <| qO rfl <| op_load_ref rfl rfl (get_last2 hlT) ta147 rfl <| qO rfl <| (hyt j _ hjm hy).at2 rfl rfl rfl <| qO rfl <| op_not rfl rfl <| qN <| mwp_cond_f rfl (rfl) <| mwp_skip ?_
     refine ⟨⟨j + 1, J ++ [_]⟩, by dsimp only; omega, ⟨by dsimp only; omega, by dsimp only; rw [restE, hR, hst]; exact hnx⟩, List.append_assoc .., (.keep rfl (.keep rfl (.keep rfl (.keep rfl (.nil))))), (.nil)⟩
    ·
     refine qR rfl <| qM rfl rfl rfl <| qO rfl <| op_load_ref rfl rfl (get_last2 hlT) ta147 rfl <| qO rfl <| (hyf j _ hjm hy).at2 rfl rfl rfl <| qO rfl <| op_not rfl rfl <| qN <| mwp_cond_t rfl (rfl) <| mwp_ret ?_
     rw [List.append_assoc]
     exact ret_noneS (S' := T (j + 1)) (by simp) Tryz.results152 (by rw [(hok _).1, (hok _).1]; exact Nat.le_refl _) (hok _).2 ⟨rfl, by rw [hjm, if_pos (by omega)]⟩
   ·
    have hgt : ¬ cmp y.1 x.1 < 0 := by simpa using h58
    have hst : stepE cmp (x :: ra, y :: rb) = (ra, rb) := by rw [stepE, if_neg hlt, if_neg hgt]
    rw [mergeE, if_neg hlt, if_neg hgt] at he
    obtain ⟨hy, hnx⟩ := drop_cons_get he
    replace hy : ((mergeE cmp a b).map fun e => [encE encX e])[j]? = some [encE encX (x.1, x.2, some y.2)] := by rw [List.getElem?_map, hy]; rfl
    have hjl := (List.getElem?_eq_some_iff.1 hy).1
    have hUC : U j = ((T j).set ida (.cells [.lst none 3 (ra.map (encR encX))])).set idb (.cells [.lst none 3 (rb.map (encR encX))]) := by rw [hU, hst]
    refine mwp_draw [17, 18, 19] [_, (T j ++ J) ++ [.cells [encX x.1, .sptr (encV x.2).cells, .sptr (encV y.2).cells]], ((T j).set ida (.cells [.lst none 3 (ra.map (encR encX))]) ++ J) ++ [.cells [encX x.1, .sptr (encV x.2).cells, .sptr (encV y.2).cells]], (U j ++ J) ++ [.cells [encX x.1, .sptr (encV x.2).cells, .sptr (encV y.2).cells]]] mo (by decide) rfl rfl rfl rfl ?_
    refine dO rfl rfl rfl (op_load_ref rfl rfl (by first | exact get_app (get_app hA) | exact get_app hA) ta142 rfl ⟨rfl, rfl⟩) ?_
    refine dO rfl rfl rfl (op_indexAddr rfl Tryz.underlying142 sz147 (by decide) rfl rfl rfl (show _ = some (encR encX x) from rfl) ⟨rfl, rfl⟩) ?_
    refine dO rfl rfl rfl (op_fieldAddr_sptr rfl rfl fo147_0 ⟨rfl, rfl⟩) <| dO rfl rfl rfl (op_load_sptr rfl rfl ta9 rfl ⟨rfl, rfl⟩) <| dO rfl rfl rfl (op_load_ref rfl rfl (by first | exact get_app (get_app hA) | exact get_app hA) ta142 rfl ⟨rfl, rfl⟩) ?_
    refine dO rfl rfl rfl (op_indexAddr rfl Tryz.underlying142 sz147 (by decide) rfl rfl rfl (show _ = some (encR encX x) from rfl) ⟨rfl, rfl⟩) ?_
    refine dO rfl rfl rfl (op_fieldAddr_sptr rfl rfl fo147_1 ⟨rfl, rfl⟩) <| dO rfl rfl rfl (op_load_sptr rfl rfl ta145 rfl ⟨rfl, rfl⟩) <| dO rfl rfl rfl (op_load_ref rfl rfl (by first | exact get_app (get_app hB) | exact get_app hB | exact get_app (get_app (get_ne hab hB))) ta142 rfl ⟨rfl, rfl⟩) ?_
    refine dO rfl rfl rfl (op_indexAddr rfl Tryz.underlying142 sz147 (by decide) rfl rfl rfl (show _ = some (encR encX y) from rfl) ⟨rfl, rfl⟩) ?_
    refine dO rfl rfl rfl (op_fieldAddr_sptr rfl rfl fo147_1 ⟨rfl, rfl⟩) <| dO rfl rfl rfl (op_load_sptr rfl rfl ta145 rfl ⟨rfl, rfl⟩) <| dO rfl rfl rfl (op_build rfl Tryz.underlying147 zm147 (.cons fo147_0 sz9 rfl rfl (Nat.le_of_ble_eq_true rfl) (.cons fo147_1 sz145 rfl rfl (Nat.le_of_ble_eq_true rfl) (.cons fo147_2 sz145 rfl rfl (Nat.le_of_ble_eq_true rfl) .nil))) (by kernel_rfl) ⟨rfl, rfl⟩) ?_
    refine dOps_op rfl rfl (.cons (op_load_ref rfl rfl (by first | exact get_app (get_app hA) | exact get_app hA) ta142 rfl ⟨rfl, rfl⟩) (.cons (op_load_ref rfl rfl (by first | exact get_app (get_app hA) | exact get_app hA) ta142 rfl ⟨rfl, rfl⟩) (.nil))) ?_
    refine dOps_op rfl rfl (.cons (op_slice rfl Tryz.underlying142 sz147 rfl (.some rfl rfl) .none (by simp) (by simp) ⟨rfl, rfl⟩) (.cons (op_slice rfl Tryz.underlying142 sz147 rfl (.some rfl rfl) .none (by simp) (by simp) ⟨rfl, rfl⟩) (.nil))) ?_
    rw [drop1]
    refine dOps_op rfl rfl (.cons (op_load_ref rfl rfl (by first | exact get_app (get_app hB) | exact get_app hB | exact get_app (get_app (get_ne hab hB))) ta142 rfl ⟨rfl, rfl⟩) (.cons (op_load_ref rfl rfl (by first | exact get_app (get_app hB) | exact get_app hB | exact get_app (get_app (get_ne hab hB))) ta142 rfl ⟨rfl, rfl⟩) (.cons (op_load_ref rfl rfl (by first | exact get_app (get_app hB) | exact get_app hB | exact get_app (get_app (get_ne hab hB))) ta142 rfl ⟨rfl, rfl⟩) (.nil)))) ?_
    refine dOps_op rfl rfl (.cons (op_slice rfl Tryz.underlying142 sz147 rfl (.some rfl rfl) .none (by simp) (by simp) ⟨rfl, rfl⟩) (.cons (op_slice rfl Tryz.underlying142 sz147 rfl (.some rfl rfl) .none (by simp) (by simp) ⟨rfl, rfl⟩) (.cons (op_slice rfl Tryz.underlying142 sz147 rfl (.some rfl rfl) .none (by simp) (by simp) ⟨rfl, rfl⟩) (.nil)))) ?_
    rw [drop1]
    refine dOps_eff rfl rfl rfl rfl (op_store_last rfl rfl rfl sz147 rfl rfl (Nat.le_of_ble_eq_true rfl) ⟨rfl, rfl⟩) <| dOps_eff rfl rfl rfl rfl (op_store_box rfl rfl rfl (hA) sz142 rfl rfl (Nat.le_of_ble_eq_true rfl) ⟨rfl, rfl⟩) <| dOps_eff rfl rfl rfl rfl (op_store_box rfl rfl rfl (by first | exact hB | exact get_ne hab hB) sz142 rfl rfl (Nat.le_of_ble_eq_true rfl) ⟨rfl, by rw [hUC]; rfl⟩) ?_
    refine dOps_nil <| mwp_seq ?_
    rcases Nat.lt_or_eq_of_le hj with hjm | hjm
    ·
     refine qR rfl <| qM rfl rfl rfl <| qO rfl <| op_load_ref rfl rfl (get_last2 hlT) ta147 rfl <| qO rfl <| (hyt j _ hjm hy).at2 rfl rfl rfl <| qO rfl <| op_not rfl rfl <| qN <| mwp_cond_f rfl (rfl) <| mwp_skip ?_
     refine ⟨⟨j + 1, J ++ [_]⟩, by dsimp only; omega, ⟨by dsimp only; omega, by dsimp only; rw [restE, hR, hst]; exact hnx⟩, List.append_assoc .., (.keep rfl (.keep rfl (.keep rfl (.keep rfl (.nil))))), (.nil)⟩
    ·
     refine qR rfl <| qM rfl rfl rfl <| qO rfl <| op_load_ref rfl rfl (get_last2 hlT) ta147 rfl <| qO rfl <| (hyf j _ hjm hy).at2 rfl rfl rfl <| qO rfl <| op_not rfl rfl <| qN <| mwp_cond_t rfl (rfl) <| mwp_ret ?_
     rw [List.append_assoc]
     exact ret_noneS (S' := T (j + 1)) (by simp) Tryz.results152 (by rw [(hok _).1, (hok _).1]; exact Nat.le_refl _) (hok _).2 ⟨rfl, by rw [hjm, if_pos (by omega)]⟩
end Go.Proofs.YtlooahbfpmigfaaGreat
end
section
set_option linter.unusedVariables false
set_option linter.unusedSimpArgs false
set_option maxRecDepth 20000
set_option maxHeartbeats 400000
namespace Go.Proofs.YtlooahbfpmigfaaGreat
open Go Go.MV
theorem set4 {S : MS} {i k : Nat} {a b c d : MObj} (h : i ≠ k) : (S.set i c).set k d = (((S.set i a).set k b).set i c).set k d := by
 rw [List.set_comm a b h, List.set_set, List.set_comm b c h.symm, List.set_set]
theorem stJ_cl {cmp : List Tk → List Tk → Int} {a b : List (REnt (List Tk))} {S L : MS} {ida idb j n : Nat} (hcl : ClS (S ++ L)) (hn : (S ++ L).length ≤ n) {o : MObj} (ho : o ∈ (S.set ida (.cells [.lst none 3 ((restE cmp a b j).1.map (encR encC))])).set idb (.cells [.lst none 3 ((restE cmp a b j).2.map (encR encC))])) : o.cl n := by
 have hr : ∀ l : List (REnt (List Tk)), (MObj.cells [.lst none 3 (l.map (encR encC))]).cl n := fun l x hx => by
  simp at hx
  subst hx
  exact cl_lst (cl_encR (fun n k => cl_encC n k) _) (fun _ => .inl rfl)
 rcases List.mem_or_eq_of_mem_set ho with ho | rfl
 ·rcases List.mem_or_eq_of_mem_set ho with ho | rfl
  ·obtain ⟨i, hi⟩ := List.getElem?_of_mem ho
   have := hcl i o (get_app hi)
   cases o with
   | cells l => exact fun x hx => (this x hx).mono hn
   | loop s p ls => exact fun t x hx => (this t x hx).mono hn
   | row _ _ _ => exact trivial
   | gone => exact trivial
  ·exact hr _
 ·exact hr _
theorem stJ_ClS {cmp : List Tk → List Tk → Int} {a b : List (REnt (List Tk))} {S : MS} {ida idb j : Nat} (hcl : ClS (S ++ [])) : ClS ((S.set ida (.cells [.lst none 3 ((restE cmp a b j).1.map (encR encC))])).set idb (.cells [.lst none 3 ((restE cmp a b j).2.map (encR encC))])) := fun i o hi => stJ_cl hcl (by simp) (List.mem_of_getElem? hi)
theorem own_cl {A : MS} {t n ty k : Nat} {xs : List (Ent (List Tk))} (hA : ∀ n, t + 1 ≤ n → ∀ o, o ∈ A → o.cl n) (hn : t + 1 ≤ n) {o : MObj} (ho : o ∈ A ++ [.cells [.lst (some t) 3 (xs.map (encE encC))], .row ty 3 k]) : o.cl n := by
 rcases List.mem_append.1 ho with ho | ho
 ·exact hA n hn o ho
 ·simp only [List.mem_cons, List.not_mem_nil, or_false] at ho
  rcases ho with rfl | rfl
  ·intro x hx
   simp at hx
   subst hx
   exact cl_lstT (by omega) (cl_encE (fun n k => cl_encC n k) _) (fun _ => .inl rfl)
  ·exact trivial
theorem encR_one {κ : Type} (ek : κ → MV) (e : REnt κ) : encR ek e = .agg (encR ek e).cells ∨ [encR ek e] = (encR ek e).cells := .inl rfl
theorem encE_one {κ : Type} (ek : κ → MV) (e : Ent κ) : encE ek e = .agg (encE ek e).cells ∨ [encE ek e] = (encE ek e).cells := .inl rfl
theorem zip_succ {α β : Type} {a : List α} {b : List β} {i : Nat} {x : α} {y : β} (hx : a[i]? = some x) (hy : b[i]? = some y) : (a.zip b).take (i + 1) = (a.zip b).take i ++ [(x, y)] := by
 have h : (a.zip b)[i]? = some (x, y) := List.getElem?_zip_eq_some.2 ⟨hx, hy⟩
 rw [List.take_add_one, h]
 rfl
theorem cmerged_spec (a b : List (REnt (List Tk))) (kc : FuncId) (S : MS) : MCalls Tryz.prog 138 [.lst none 3 (a.map (encR encC)), .lst none 3 (b.map (encR encC)), .fn (.func kc) [] []] S fun v σ' => v = .fn (.func 159) [] [.ref S.length 0, .ref (S.length + 1) 0, .ref (S.length + 2) 0] ∧ σ' = S ++ [.cells [.lst none 3 (a.map (encR encC))], .cells [.lst none 3 (b.map (encR encC))], .cells [.fn (.func kc) [] []]] := by
 refine mcalls_body Tryz.func138 rfl Tryz.ntmps138 (Nat.le_of_ble_eq_true rfl) ?_
 refine mwp_seq <| qR rfl <| qB rfl rfl rfl rfl rfl <| qB rfl rfl rfl rfl rfl <| qB rfl rfl rfl rfl rfl <| qA rfl rfl rfl <| qN <| mwp_seq <| qR rfl <| qO rfl <| op_makeFunc rfl rfl rfl <| qA rfl rfl rfl <| qN ?_
 refine mwp_facts fun hcv hcl => ?_
 refine mwp_ret ?_
 exact ret_tmpT (.inr rfl) Tryz.results138 rfl (.refl _) (hcv 6 _ rfl) (by simp) hcl ⟨rfl, rfl⟩
theorem crow_spec (keys : List (List Tk)) (vals : List Val) (hkv : keys.length = vals.length) (hk : keys.length ≤ 1000) (S : MS) : MCalls Tryz.prog 139 [.lst none 1 (keys.map encC), .lst none 5 (encVs vals)] S fun v σ' => v = .lst none 3 ((keys.zip vals).map (encR encC)) ∧ σ' = S := by
 refine mcalls_body Tryz.func139 rfl Tryz.ntmps139 (Nat.le_of_ble_eq_true rfl) ?_
 refine mwp_len (t := 0) rfl fun hlen => ?_
 rw [List.length_map] at hlen
 refine mwp_seq <| qR rfl <| qA rfl rfl rfl <| qN <| mwp_seq <| qR rfl <| qA rfl rfl rfl <| qN <| mwp_seq <| mwp_seq <| qR rfl <| qM rfl rfl rfl <| qE rfl rfl Tryz.underlying26 rfl <| qM rfl rfl rfl <| qN <| mwp_block <| mwp_row0 5 154 3 rfl (Nat.le_refl _) rfl rfl ?_
 refine mwp_loopKJ (α := Nat) [(1, _), (8, _), (9, _)] (fun i => [(10, .int .i64 (i : Int)), (5, .lst (some (S.length + 0)) 3 (((keys.zip vals).take i).map (encR encC)))]) (fun i => [.row 154 3 ((keys.zip vals).take i).length]) (fun i => i ≤ keys.length) (fun i => keys.length - i) (0) (Nat.le_refl _) (.keep rfl (.keep rfl (.keep rfl (.nil)))) (.keep rfl (.keep rfl (.nil))) (by omega) (rfl) ?_
 rintro i hi
 have hzl : ((keys.zip vals).take i).length ≤ 1000 := by rw [List.length_take, List.length_zip]; omega
 refine mwp_seq <| qR rfl <| qC rfl rfl rfl rfl rfl <| qN <| mwp_seq ?_
 refine mwp_cond_split rfl (fun h11 => ?_) (fun h11 => ?_)
 ·
  have hlt : i < keys.length := by simpa using h11
  obtain ⟨k, hs⟩ : ∃ q_, keys[i]? = some q_ := ⟨_, List.getElem?_eq_getElem hlt⟩
  obtain ⟨v, hs2⟩ : ∃ q, vals[i]? = some q := ⟨_, List.getElem?_eq_getElem (by omega)⟩
  refine mwp_skip <| mwp_seq <| mwp_block <| mwp_seq <| qR rfl <| qM rfl rfl rfl <| qO rfl <| op_indexAddr rfl Tryz.underlying26 sz44 (by decide) rfl rfl rfl (get_map hs) ?_
  refine qO rfl <| op_load_sptr rfl rfl ta44 rfl <| qA rfl rfl rfl <| qA rfl rfl rfl <| qN <| qR rfl <| qM rfl rfl rfl <| qM rfl rfl rfl <| qM rfl rfl rfl <| qM rfl rfl rfl <| qO rfl <| op_indexAddr rfl Tryz.underlying27 sz29 (by decide) rfl rfl rfl (encVs_get hs2) ?_
  refine qO rfl <| op_build rfl Tryz.underlying154 zm154 (.cons fo154_0 sz44 rfl rfl (Nat.le_of_ble_eq_true rfl) (.cons fo154_1 sz145 rfl rfl (Nat.le_of_ble_eq_true rfl) .nil)) (by kernel_rfl) ?_
  refine qO rfl <| op_buildSlice rfl Tryz.underlying151 el154 rfl rfl (by decide) (by decide) rfl rfl ?_
  refine qO rfl <| op_append' rfl Tryz.underlying151 el154 rfl rfl rfl (by simp) (by simp only [List.length_map, List.length_cons, List.length_nil]; omega) (by simp only [List.length_map, List.length_cons, List.length_nil]; omega) rfl ?_
  refine qA rfl rfl rfl <| qN <| qR rfl <| qO rfl <| op_arith rfl rfl rfl rfl <| qM rfl rfl rfl <| qN ?_
  refine ⟨i + 1, _, by omega, by omega, by rw [zip_succ hs hs2, List.length_append]; rfl, .new trivial .nil, (.old rfl rfl (.old rfl rfl (.old rfl rfl (.nil)))), (.new' rfl (int_succ hlt hlen) (.int _ _) (.new' rfl (by rw [zip_succ hs hs2, List.map_append]; rfl) (cl_lstT (by simp) (cl_encR (fun n k => cl_encC n k) _) (encR_one _)) (.nil)))⟩
 ·
  have hge : i = keys.length := by simp at h11; omega
  refine mwp_exit <| mwp_seq <| qR rfl <| qM rfl rfl rfl <| qA rfl rfl rfl <| qN <| mwp_ret ?_
  exact ret_tmp (.inr rfl) Tryz.results139 rfl (Sub.trans (.view _ _ _) (.of_eq (by rw [hge, List.take_of_length_le (by rw [List.length_zip]; omega)]))) (cl_lst (cl_encR (fun n k => cl_encC n k) _) (encR_one _)) ⟨rfl, rfl⟩
theorem xmerged_spec (a b : List (REnt (Bs))) (kc : FuncId) (S : MS) : MCalls Tryz.prog 130 [.lst none 3 (a.map (encR encX)), .lst none 3 (b.map (encR encX)), .fn (.func kc) [] []] S fun v σ' => v = .fn (.func 152) [] [.ref S.length 0, .ref (S.length + 1) 0, .ref (S.length + 2) 0] ∧ σ' = S ++ [.cells [.lst none 3 (a.map (encR encX))], .cells [.lst none 3 (b.map (encR encX))], .cells [.fn (.func kc) [] []]] := by
 refine mcalls_body Tryz.func130 rfl Tryz.ntmps130 (Nat.le_of_ble_eq_true rfl) ?_
 refine mwp_seq <| qR rfl <| qB rfl rfl rfl rfl rfl <| qB rfl rfl rfl rfl rfl <| qB rfl rfl rfl rfl rfl <| qA rfl rfl rfl <| qN <| mwp_seq <| qR rfl <| qO rfl <| op_makeFunc rfl rfl rfl <| qA rfl rfl rfl <| qN ?_
 refine mwp_facts fun hcv hcl => ?_
 refine mwp_ret ?_
 exact ret_tmpT (.inr rfl) Tryz.results130 rfl (.refl _) (hcv 6 _ rfl) (by simp) hcl ⟨rfl, rfl⟩
theorem xrow_spec (keys : List (Bs)) (vals : List Val) (hkv : keys.length = vals.length) (hk : keys.length ≤ 1000) (S : MS) : MCalls Tryz.prog 131 [.lst none 1 (keys.map encX), .lst none 5 (encVs vals)] S fun v σ' => v = .lst none 3 ((keys.zip vals).map (encR encX)) ∧ σ' = S := by
 refine mcalls_body Tryz.func131 rfl Tryz.ntmps131 (Nat.le_of_ble_eq_true rfl) ?_
 refine mwp_len (t := 0) rfl fun hlen => ?_
 rw [List.length_map] at hlen
 refine mwp_seq <| qR rfl <| qA rfl rfl rfl <| qN <| mwp_seq <| qR rfl <| qA rfl rfl rfl <| qN <| mwp_seq <| mwp_seq <| qR rfl <| qM rfl rfl rfl <| qE rfl rfl Tryz.underlying25 rfl <| qM rfl rfl rfl <| qN <| mwp_block <| mwp_row0 5 147 3 rfl (Nat.le_refl _) rfl rfl ?_
 refine mwp_loopKJ (α := Nat) [(1, _), (8, _), (9, _)] (fun i => [(10, .int .i64 (i : Int)), (5, .lst (some (S.length + 0)) 3 (((keys.zip vals).take i).map (encR encX)))]) (fun i => [.row 147 3 ((keys.zip vals).take i).length]) (fun i => i ≤ keys.length) (fun i => keys.length - i) (0) (Nat.le_refl _) (.keep rfl (.keep rfl (.keep rfl (.nil)))) (.keep rfl (.keep rfl (.nil))) (by omega) (rfl) ?_
 rintro i hi
 have hzl : ((keys.zip vals).take i).length ≤ 1000 := by rw [List.length_take, List.length_zip]; omega
 refine mwp_seq <| qR rfl <| qC rfl rfl rfl rfl rfl <| qN <| mwp_seq ?_
 refine mwp_cond_split rfl (fun h11 => ?_) (fun h11 => ?_)
 ·
  have hlt : i < keys.length := by simpa using h11
  obtain ⟨k, hs⟩ : ∃ q_, keys[i]? = some q_ := ⟨_, List.getElem?_eq_getElem hlt⟩
  obtain ⟨v, hs2⟩ : ∃ q, vals[i]? = some q := ⟨_, List.getElem?_eq_getElem (by omega)⟩
  refine mwp_skip <| mwp_seq <| mwp_block <| mwp_seq <| qR rfl <| qM rfl rfl rfl <| qO rfl <| op_indexAddr rfl Tryz.underlying25 sz9 (by decide) rfl rfl rfl (get_map hs) ?_
  refine qO rfl <| op_load_sptr rfl rfl ta9 rfl <| qA rfl rfl rfl <| qA rfl rfl rfl <| qN <| qR rfl <| qM rfl rfl rfl <| qM rfl rfl rfl <| qM rfl rfl rfl <| qM rfl rfl rfl <| qO rfl <| op_indexAddr rfl Tryz.underlying27 sz29 (by decide) rfl rfl rfl (encVs_get hs2) ?_
  refine qO rfl <| op_build rfl Tryz.underlying147 zm147 (.cons fo147_0 sz9 rfl rfl (Nat.le_of_ble_eq_true rfl) (.cons fo147_1 sz145 rfl rfl (Nat.le_of_ble_eq_true rfl) .nil)) (by kernel_rfl) ?_
  refine qO rfl <| op_buildSlice rfl Tryz.underlying142 el147 rfl rfl (by decide) (by decide) rfl rfl ?_
  refine qO rfl <| op_append' rfl Tryz.underlying142 el147 rfl rfl rfl (by simp) (by simp only [List.length_map, List.length_cons, List.length_nil]; omega) (by simp only [List.length_map, List.length_cons, List.length_nil]; omega) rfl ?_
  refine qA rfl rfl rfl <| qN <| qR rfl <| qO rfl <| op_arith rfl rfl rfl rfl <| qM rfl rfl rfl <| qN ?_
  refine ⟨i + 1, _, by omega, by omega, by rw [zip_succ hs hs2, List.length_append]; rfl, .new trivial .nil, (.old rfl rfl (.old rfl rfl (.old rfl rfl (.nil)))), (.new' rfl (int_succ hlt hlen) (.int _ _) (.new' rfl (by rw [zip_succ hs hs2, List.map_append]; rfl) (cl_lstT (by simp) (cl_encR (fun n k => cl_encX n k) _) (encR_one _)) (.nil)))⟩
 ·
  have hge : i = keys.length := by simp at h11; omega
  refine mwp_exit <| mwp_seq <| qR rfl <| qM rfl rfl rfl <| qA rfl rfl rfl <| qN <| mwp_ret ?_
  exact ret_tmp (.inr rfl) Tryz.results131 rfl (Sub.trans (.view _ _ _) (.of_eq (by rw [hge, List.take_of_length_le (by rw [List.length_zip]; omega)]))) (cl_lst (cl_encR (fun n k => cl_encX n k) _) (encR_one _)) ⟨rfl, rfl⟩
theorem set2_app {A O C : MS} {i k : Nat} {a b a0 b0 : MObj} (hA : A[i]? = some a0) (hB : A[k]? = some b0) (hne : i ≠ k) : ((([] ++ (A ++ O)) ++ C).set i a).set k b = ([] ++ (((A.set i a).set k b) ++ O)) ++ C := by
 rw [List.nil_append, List.nil_append, set_app (get_app hA), set_app hA, set_app (get_app (get_ne hne hB)), set_app (get_ne hne hB)]
theorem get_nil_app {A : MS} {i : Nat} {o : MObj} (h : A[i]? = some o) : (([] : MS) ++ A)[i]? = some o := h
def stJ (cmp : List Tk → List Tk → Int) (a b : List (REnt (List Tk))) (S : MS) (ida idb j : Nat) : MS := (S.set ida (.cells [.lst none 3 ((restE cmp a b j).1.map (encR encC))])).set idb (.cells [.lst none 3 ((restE cmp a b j).2.map (encR encC))])
theorem stJ_len {cmp : List Tk → List Tk → Int} {a b : List (REnt (List Tk))} {S : MS} {ida idb j : Nat} : (stJ cmp a b S ida idb j).length = S.length := by simp [stJ]
theorem cl_entC (n : Nat) (e : Ent (List Tk)) : Cl n (encE encC e) := cl_encE (fun n k => cl_encC n k) n e
theorem appendSeq_spec (a b : List (REnt (List Tk))) (hab : a.length + b.length ≤ 1000) (kc : FuncId) (cmp : List Tk → List Tk → Int) (hcc : CallOk Tryz.prog kc) (hcmp : ∀ (k1 k2 : List Tk) (S : MS), MCalls Tryz.prog kc ([] ++ [encC k1, encC k2] ++ []) S fun v σ' => v = .int .i64 (cmp k1 k2) ∧ σ' = S) (ida idb idc : Nat) (hne : ida ≠ idb) (hnc : ida ≠ idc) (hnd : idb ≠ idc) (S : MS) (hA : S[ida]? = some (.cells [.lst none 3 (a.map (encR encC))])) (hB : S[idb]? = some (.cells [.lst none 3 (b.map (encR encC))])) (hC : S[idc]? = some (.cells [.fn (.func kc) [] []])) : MCalls Tryz.prog 158 [.lst0, .fn (.func 159) [] [.ref ida 0, .ref idb 0, .ref idc 0]] S fun v σ' => v = .lst none 3 ((mergeE cmp a b).map (encE encC)) ∧ σ' = stJ cmp a b S ida idb (mergeE cmp a b).length := by
 refine mcalls_body Tryz.func158 rfl Tryz.ntmps158 (Nat.le_of_ble_eq_true rfl) ?_
 refine mwp_facts fun _ hcl0 => ?_
 refine mwp_seq <| qR rfl <| qB rfl rfl rfl rfl rfl <| qA rfl rfl rfl <| qN <| mwp_seq <| mwp_seq <| qR rfl <| qM rfl rfl rfl <| qN <| mwp_block <| mwp_cellrow 0 154 3 rfl (Nat.le_refl _) rfl rfl ?_
 refine mwp_facts fun _ hcl => ?_
 have hS0 : stJ cmp a b S ida idb 0 = S := by unfold stJ; rw [restE, set_self_ hA, set_self_ hB]
 have hgA : ∀ j, (stJ cmp a b S ida idb j)[ida]? = some (.cells [.lst none 3 ((restE cmp a b j).1.map (encR encC))]) := fun j => by unfold stJ; exact get_ne hne.symm (get_set hA)
 have hgB : ∀ j, (stJ cmp a b S ida idb j)[idb]? = some (.cells [.lst none 3 ((restE cmp a b j).2.map (encR encC))]) := fun j => by unfold stJ; exact get_set (get_ne hne hB)
 have hgC : ∀ j, (stJ cmp a b S ida idb j)[idc]? = some (.cells [.fn (.func kc) [] []]) := fun j => by unfold stJ; exact get_ne hnd (get_ne hnc hC)
 have hstep : ∀ j, stJ cmp a b S ida idb (j + 1) = ((stJ cmp a b S ida idb j).set ida (.cells [.lst none 3 ((restE cmp a b (j + 1)).1.map (encR encC))])).set idb (.cells [.lst none 3 ((restE cmp a b (j + 1)).2.map (encR encC))]) := fun j => by unfold stJ; exact set4 hne
 have hcS : ∀ j n, S.length + 2 ≤ n → ∀ o, o ∈ stJ cmp a b S ida idb j → o.cl n := fun j n hn o ho => stJ_cl hcl (by simpa using hn) ho
 show mwp _ _ _ _ _ _ _ (([] : MS) ++ _)
 refine mwp_rangeC (L0 := _) .ret (.inl rfl) (fun j => true) (fun j => (stJ cmp a b S ida idb j ++ [.cells [.lst (some (S.length + 1)) 3 (((mergeE cmp a b).take j).map (encE encC))], .row 154 3 ((mergeE cmp a b).take j).length] : MS)) (fun j => (stJ cmp a b S ida idb (j + 1) ++ [.cells [.lst (some (S.length + 1)) 3 (((mergeE cmp a b).take j).map (encE encC))], .row 154 3 ((mergeE cmp a b).take j).length] : MS)) (fun j => (stJ cmp a b S ida idb j ++ [.cells [.lst (some (S.length + 1)) 3 (((mergeE cmp a b).take j).map (encE encC))], .row 154 3 ((mergeE cmp a b).take j).length] : MS)) (fun j => by simp [stJ_len]) (fun j => by simp [stJ_len]) (fun j => by simp [stJ_len]) (by rw [hS0]; rfl)
  (fun j o ho n hn => own_cl (hcS j) (by simpa [stJ_len] using hn) ho) (fun j o ho n hn => own_cl (hcS (j + 1)) (by simpa [stJ_len] using hn) ho) (fun j o ho n hn => own_cl (hcS j) (by simpa [stJ_len] using hn) ho) rfl co159 rfl (by simp [stJ_len]) (cmerged_iter cmp kc hcc hcmp a b ida idb idc (S.length + 3) hne) (fun j => by simp [stJ_len]) (fun j hj => ⟨get_app (get_nil_app (get_app (hgA j))), get_app (get_nil_app (get_app (hgB j))), get_app (get_nil_app (get_app (hgC j))), ?_⟩) (fun j s q => by simp [stJ_len]) rfl (fun y hy => by obtain ⟨i, _, rfl⟩ := List.mem_map.1 hy; rfl) ?_ ?_ ?_
 ·exact (congrArg (fun x => (([] : MS) ++ (x ++ _)) ++ _) (hstep j)).trans (set2_app (hgA j) (hgB j) hne).symm
 ·
  intro j y hy hbef L'
  rw [List.getElem?_map] at hy
  obtain ⟨⟨kk, v, o⟩, hp, rfl⟩ := Option.map_eq_some_iff.1 hy
  have htl : ((mergeE cmp a b).take j).length ≤ 1000 := by have := mergeE_len cmp a b; rw [List.length_take]; omega
  have hlj : (stJ cmp a b S ida idb (j + 1)).length = S.length := stJ_len
  refine qR rfl <| qO rfl <| op_alloc rfl zm154 <| qO rfl <| op_store_last rfl rfl rfl sz154 rfl (by cases o <;> rfl) (Nat.le_of_ble_eq_true rfl) ?_
  refine qN ?_
  refine ⟨rfl, [_], rfl, ?_⟩
  rw [List.append_assoc ([] ++ _)]
  show mwp _ _ _ _ _ _ _ ((stJ cmp a b S ida idb (j + 1) ++ _) ++ _)
  refine mwp_abs fun R hR => ?_
  refine mwp_block <| qR rfl <| qO rfl <| op_load_ref rfl rfl (get_o0 hlj) ta151 rfl <| qO rfl <| op_load_ref rfl rfl (by rw [hR]; exact get_rt) ta154 rfl ?_
  refine qO rfl <| op_buildSlice rfl Tryz.underlying151 el154 rfl rfl (by decide) (by decide) rfl (by cases o <;> rfl) ?_
  refine qO rfl <| op_append rfl Tryz.underlying151 el154 rfl rfl (get_o1 hlj) (by simp) (by simp only [List.length_map, List.length_cons, List.length_nil]; omega) (by simp only [List.length_map, List.length_cons, List.length_nil]; omega) ?_
  refine qO rfl <| op_store rfl rfl rfl (get_o0' hlj) sz151 rfl rfl (Nat.le_of_ble_eq_true rfl) <| qN ?_
  exact .inl ⟨rfl, rfl, [_], (set_o01 hlj).trans (by rw [hR, List.take_add_one (l := mergeE cmp a b), hp, Option.toList_some, List.map_append, len_snoc]; exact (List.append_assoc _ _ _).symm)⟩
 ·
  intro _
  rw [List.length_map]
  refine mwp_seq <| qR rfl <| qO rfl <| op_load_ref rfl rfl (get_o0 stJ_len) ta151 rfl <| qA rfl rfl rfl <| qN <| mwp_ret ?_
  show BodyQ _ _ _ _ _ _ ((stJ cmp a b S ida idb (mergeE cmp a b).length ++ _) ++ _)
  rw [List.append_assoc]
  exact ret_tmpS (.inr rfl) Tryz.results158 rfl (Sub.trans (.view _ _ _) (.of_eq (by rw [List.take_length]))) (cl_lst (cl_entC _) (encE_one _)) (by simp [stJ_len]) (stJ_ClS hcl0) ⟨rfl, rfl⟩
 ·
  intro j y hy hp
  cases hp
theorem collect_spec (a b : List (REnt (List Tk))) (hab : a.length + b.length ≤ 1000) (kc : FuncId) (cmp : List Tk → List Tk → Int) (hcc : CallOk Tryz.prog kc) (hcmp : ∀ (k1 k2 : List Tk) (S : MS), MCalls Tryz.prog kc ([] ++ [encC k1, encC k2] ++ []) S fun v σ' => v = .int .i64 (cmp k1 k2) ∧ σ' = S) (ida idb idc : Nat) (hne : ida ≠ idb) (hnc : ida ≠ idc) (hnd : idb ≠ idc) (S : MS) (hA : S[ida]? = some (.cells [.lst none 3 (a.map (encR encC))])) (hB : S[idb]? = some (.cells [.lst none 3 (b.map (encR encC))])) (hC : S[idc]? = some (.cells [.fn (.func kc) [] []])) : MCalls Tryz.prog 137 [.fn (.func 159) [] [.ref ida 0, .ref idb 0, .ref idc 0]] S fun v σ' => v = .lst none 3 ((mergeE cmp a b).map (encE encC)) ∧ σ' = stJ cmp a b S ida idb (mergeE cmp a b).length := by
 refine mcalls_body Tryz.func137 rfl Tryz.ntmps137 (Nat.le_of_ble_eq_true rfl) ?_
 refine mwp_facts fun _ hcl0 => ?_
 rw [List.append_nil]
 rw [List.append_nil] at hcl0
 refine mwp_seq <| qR rfl <| qA rfl rfl rfl <| qN <| mwp_seq <| qR rfl <| qM rfl rfl rfl ?_
 refine wOps_op rfl (op_call rfl rfl rfl co158 ((appendSeq_spec a b hab kc cmp hcc hcmp ida idb idc hne hnc hnd S hA hB hC).mono ?_))
 rintro _ _ ⟨rfl, rfl⟩
 refine qA rfl rfl rfl <| qN <| mwp_ret ?_
 exact ret_tmpT (.inr rfl) Tryz.results137 rfl (.refl _) (cl_lst (cl_entC _) (encE_one _)) (by simp [stJ_len]) (stJ_ClS (by rw [List.append_nil]; exact hcl0)) ⟨rfl, rfl⟩
end Go.Proofs.YtlooahbfpmigfaaGreat
end
section
set_option linter.unusedVariables false
set_option linter.unusedSimpArgs false
namespace Go.MV
open Go Go.RowKit
section
variable {P : Program} {rd : Option Nat} {o : Oper} {env : Env} {σ : MS} {K : MV → MS → Prop}
theorem op_ext {f : Operand} {args : Array Operand} {ts : Array TypeId} {k : FuncId} {xs : List MV} {vz : Value} {mz : MV} (ho : o.op = .call { callee := .value f, args := args, argTypes := ts }) (hf : evo env f = some (.fn (.func k) [] [])) (hx : evos env args.toList = some xs)
    (hrun : ∀ (g : Gh) (w : World) (vs : List Value), Rds g w xs vs → (callFunc k vs.toArray).run P w = .ok (.value vz) w) (hz : constMV vz = some mz) (h : K mz σ) : OpWp P rd o env σ K := by
  refine OpWp.of_run (by simp [ho]) fun g w a hr hop => ?_
  obtain ⟨us, vs, e, k1, k2⟩ := (hop f (by simp [ho, Op.operands, Call.operands]) _ hf).inv_fn
  have k3 : Rds g w xs (args.toList.map a.eval) := evos_rds (fun x hx m hm => hop x (by simp [ho, Op.operands, Call.operands]; exact .inr (by simpa using hx)) m hm) hx
  have e1 : us = [] := List.eq_nil_of_length_eq_zero k1.1
  have e2 : vs = [] := List.eq_nil_of_length_eq_zero k2.1
  subst e1 e2
  refine ⟨vz, w, ?_, .same h hr (constMV_rd _ _ hz)⟩
  have := hrun g w _ k3
  rw [← Array.toList_map, Array.toArray_toList] at this
  simp [execOp, ho, resolve, e, Deferred.ofValue, invoke, this]
theorem op_max3 {ts : Array TypeId} {x y z : Operand} {k : IntKind} {l m n r : Int} (ho : o.op = .call { callee := .builtin .max, args := #[x, y, z], argTypes := ts }) (hx : evo env x = some (.int k l)) (hy : evo env y = some (.int k m)) (hz : evo env z = some (.int k n)) (e : max (max l m) n = r) (h : K (.int k r) σ) : OpWp P rd o env σ K := by
  refine OpWp.of_run (by simp [ho]) fun g w a hr hop => ?_
  have e1 := (hop x (by simp [ho, Op.operands, Call.operands]) _ hx).inv_int
  have e2 := (hop y (by simp [ho, Op.operands, Call.operands]) _ hy).inv_int
  have e3 := (hop z (by simp [ho, Op.operands, Call.operands]) _ hz).inv_int
  have hm : ∀ a b : Int, (if b > a then b else a) = max a b := fun a b => by split <;> omega
  refine ⟨.int k r, w, ?_, .same h hr (.int _ _)⟩
  simp [execOp, ho, resolve, invoke, builtin, Builtin.max_, Builtin.max2, e1, e2, e3, hm, e]
end
abbrev cmpX (a b : Bs) : Int := Go.Lib.compareBytes a b
theorem cmpX_eq : ∀ a b : Bs, cmpX a b = if Op.bytesLess a b then -1 else if Op.bytesLess b a then 1 else 0
  | [], [] => rfl
  | [], _ :: _ => rfl
  | _ :: _, [] => rfl
  | x :: a, y :: b => by
    have ih := cmpX_eq a b
    have h1 : ∀ x y : UInt8, x < y → ¬ y < x := fun x y h h2 => absurd (UInt8.lt_trans h h2) (UInt8.lt_irrefl _)
    unfold cmpX at ih ⊢
    simp only [Go.Lib.compareBytes, Op.bytesLess]
    by_cases hxy : x < y
    · simp [hxy]
    · by_cases hyx : y < x
      · have hne : ¬ x = y := fun e => by subst e; exact UInt8.lt_irrefl _ hyx
        simp [hxy, hyx, hne]
      · have e : x = y := UInt8.le_antisymm (UInt8.not_lt.1 hyx) (UInt8.not_lt.1 hxy)
        subst e
        simp [hxy, ih]
theorem run_cmpstr {P : Program} {k : FuncId} {fn : Func} (hf : P.funcs[k]? = some fn) (hname : (fn.name == "runtime.NumGoroutine") = false) (hb : fn.body.isNone = true) (hn : Extern.findNext fn = none) (he : Extern.find fn = some Extern.BytealgCompare.compare) (a b : Bs) (g : Gh) (w : World) (vs : List Value) (h : Rds g w [.str (bs a), .str (bs b)] vs) :
    (callFunc k vs.toArray).run P w = .ok (.value (.int .i64 (cmpX a b))) w := by
  obtain ⟨u, us, rfl, h1, h2⟩ := h.uncons
  obtain ⟨u2, us2, rfl, h3, h4⟩ := h2.uncons
  have e1 := h1.inv_str
  have e2 := h3.inv_str
  have e3 : us2 = [] := List.eq_nil_of_length_eq_zero h4.1
  subst e1 e2 e3
  rw [run_callFunc_extern hf hname hb hn he, Go.Lib.run_compareString]
  rfl
end Go.MV
end
section
set_option linter.unusedVariables false
set_option linter.unusedSimpArgs false
namespace Go.Proofs.YtlooahbfpmigfaaGreat
open Go Go.MV Go.RowKit
section
variable {κ : Type}
def ofE (f : Val → Val → Option Val) (e : Ent κ) : Option Val := match e.2.2 with | none => some e.2.1 | some w => f e.2.1 w
def goE (f : Val → Val → Option Val) : List (Ent κ) → Option (List (κ × Val))
  | [] => some []
  | e :: l => match ofE f e with | none => none | some v => (goE f l).map ((e.1, v) :: ·)
theorem goE_append (f : Val → Val → Option Val) : ∀ a b : List (Ent κ), goE f (a ++ b) = (goE f a).bind fun x => (goE f b).map (x ++ ·)
  | [], b => by simp [goE]
  | e :: a, b => by
    rw [List.cons_append, goE, goE, goE_append f a b]
    cases ofE f e with
    | none => rfl
    | some v =>
      cases goE f a with
      | none => rfl
      | some x => cases goE f b <;> simp
theorem goE_len {f : Val → Val → Option Val} : ∀ {a : List (Ent κ)} {x}, goE f a = some x → x.length = a.length
  | [], x, h => by simp [goE] at h; subst h; rfl
  | e :: a, x, h => by
    rw [goE] at h
    cases ho : ofE f e with
    | none => rw [ho] at h; cases h
    | some v =>
      rw [ho] at h
      cases hg : goE f a with
      | none => rw [hg] at h; cases h
      | some y => rw [hg] at h; simp at h; subst h; simp [goE_len hg]
theorem mergeE_mem (cmp : κ → κ → Int) : ∀ (a b : List (REnt κ)) (e : Ent κ), e ∈ mergeE cmp a b → ((e.1, e.2.1) ∈ a ∨ (e.1, e.2.1) ∈ b) ∧ ∀ y, e.2.2 = some y → (e.1, e.2.1) ∈ a ∧ ∃ k, (k, y) ∈ b := by
  intro a b
  induction a, b using mergeE.induct cmp with
  | case1 => intro e h; simp [mergeE] at h
  | case2 x a ih =>
    intro e h
    rw [mergeE, List.mem_cons] at h
    rcases h with rfl | h
    · exact ⟨.inl (.head _), fun y h => by cases h⟩
    · obtain ⟨h1, h2⟩ := ih e h
      refine ⟨h1.imp (.tail _) id, fun y hy => ?_⟩
      obtain ⟨p, k, q⟩ := h2 y hy
      exact ⟨.tail _ p, k, q⟩
  | case3 y b ih =>
    intro e h
    rw [mergeE, List.mem_cons] at h
    rcases h with rfl | h
    · exact ⟨.inr (.head _), fun y h => by cases h⟩
    · obtain ⟨h1, h2⟩ := ih e h
      refine ⟨h1.imp id (.tail _), fun y hy => ?_⟩
      obtain ⟨p, k, q⟩ := h2 y hy
      exact ⟨p, k, .tail _ q⟩
  | case4 x a y b hlt ih =>
    intro e h
    rw [mergeE, if_pos hlt, List.mem_cons] at h
    rcases h with rfl | h
    · exact ⟨.inl (.head _), fun y h => by cases h⟩
    · obtain ⟨h1, h2⟩ := ih e h
      refine ⟨h1.imp (.tail _) id, fun y hy => ?_⟩
      obtain ⟨p, k, q⟩ := h2 y hy
      exact ⟨.tail _ p, k, q⟩
  | case5 x a y b hlt hgt ih =>
    intro e h
    rw [mergeE, if_neg hlt, if_pos hgt, List.mem_cons] at h
    rcases h with rfl | h
    · exact ⟨.inr (.head _), fun y h => by cases h⟩
    · obtain ⟨h1, h2⟩ := ih e h
      refine ⟨h1.imp id (.tail _), fun y hy => ?_⟩
      obtain ⟨p, k, q⟩ := h2 y hy
      exact ⟨p, k, .tail _ q⟩
  | case6 x a y b hlt hgt ih =>
    intro e h
    rw [mergeE, if_neg hlt, if_neg hgt, List.mem_cons] at h
    rcases h with rfl | h
    · exact ⟨.inl (.head _), fun z h => by cases h; exact ⟨.head _, y.1, .head _⟩⟩
    · obtain ⟨h1, h2⟩ := ih e h
      refine ⟨h1.imp (.tail _) (.tail _), fun y hy => ?_⟩
      obtain ⟨p, k, q⟩ := h2 y hy
      exact ⟨.tail _ p, k, .tail _ q⟩
end
def seenE (l : List (Ent (List Tk))) (e : Ent (List Tk)) : Bool := l.any fun o => decide (cmpF e.1 o.1 = -1)
def entC (v : Val) : List (REnt (List Tk)) := v.cv.zip v.vv
def entX (v : Val) : List (REnt Bs) := v.sv.zip v.vv
def mergedC (a b : Val) : List (Ent (List Tk)) := mergeE byTicksF (entC a) (entC b)
def mergedX (a b : Val) : List (Ent Bs) := mergeE cmpX (entX a) (entX b)
def causesF (f : Val → Val → Option Val) (a b : Val) : Option Val := (goE f ((mergedC a b).filter fun e => !seenE (mergedC a b) e)).map fun l => .mk 0 0 [] (l.map (·.1)) (l.map (·.2))
def mapsF (f : Val → Val → Option Val) (a b : Val) : Option Val := (goE f (mergedX a b)).map fun l => .mk 0 0 (l.map (·.1)) [] (l.map (·.2))
def goP : List (Val → Val → Option Val) → List Val → List Val → Option (List Val)
  | f :: fs, x :: a, y :: b => match f x y with | none => none | some v => (goP fs a b).map (v :: ·)
  | _, _, _ => some []
def pairF2 (fs : List (Val → Val → Option Val)) (a b : Val) : Option Val := (goP fs a.vv b.vv).map fun l => .mk 0 0 [] [] l
def laterC (a b : Val) : Int := if cmpI a.nv b.nv ≠ 0 then cmpI a.nv b.nv else if cmpI a.mv b.mv ≠ 0 then cmpI a.mv b.mv else cmpX (a.sv.headD []) (b.sv.headD [])
def laterF (a b : Val) : Val := if a.sv.length = 0 ∨ (0 < b.sv.length ∧ laterC a b < 0) then b else a
def clocksF (a b : Val) : Val := if a.cv.length = 0 then b else if b.cv.length = 0 then a else .mk 0 0 [] [joinF (a.cv.headD []) (b.cv.headD [])] []
def largeF (v : Val) : Bool := decide (40 < max (max v.sv.length v.cv.length) v.vv.length) || (match v.cv with | [c] => decide (40 < c.length) | _ => false)
def bothB (k : Int) (fs : List (Val → Val → Option Val)) (a b : Val) : Option Val :=
  if k = 1 ∨ k = 2 then some (.mk (max a.nv b.nv) 0 [] [] [])
  else if k = 3 then some (.mk 0 0 (bothX a.sv b.sv) [] [])
  else if k = 4 then mapsF (fs.headD fun _ _ => none) a b
  else if k = 5 then pairF2 fs a b
  else if k = 6 then some (laterF a b)
  else if k = 7 then some (clocksF a b)
  else causesF (fs.headD fun _ _ => none) a b
def capF (o : Option Val) : Option Val := o.bind fun v => if largeF v then none else some v
mutual
def bothF : Sch → Val → Val → Option Val
  | .mk k ins, a, b => capF (bothB k (bothL ins) a b)
def bothL : List Sch → List (Val → Val → Option Val)
  | [] => []
  | s :: l => bothF s :: bothL l
end
theorem bothF_mk (k : Int) (ins : List Sch) (a b : Val) : bothF (.mk k ins) a b = capF (bothB k (bothL ins) a b) := by rw [bothF]
theorem bothL_eq : ∀ l : List Sch, bothL l = l.map bothF
  | [] => by simp [bothL]
  | s :: l => by simp [bothL, bothL_eq l]
def encErr (n : Int) : MV := .iface 62 (.int .i64 n)
def errO : Option Val → MV
  | none => encErr 13
  | some _ => .iface0
theorem cl_errO (n : Nat) (o : Option Val) : Cl n (errO o) := by
  cases o
  · exact .iface _ _ (.int _ _)
  · exact .iface0
def encO (o : Option Val) : MV := .tup [encV (o.getD noV), errO o]
theorem encO_of (o : Option Val) : ∃ n m s c w, o.getD noV = .mk n m s c w := by
  cases o.getD noV with
  | mk n m s c w => exact ⟨n, m, s, c, w, rfl⟩
def encJ (o : Except Int Val) : MV := .tup [match o with | .error _ => encV noV | .ok v => encV v, match o with | .error n => encErr n | .ok _ => .iface0]
noncomputable def joinVF (s : Sch) (a b : Val) : Except Int Val :=
  if (isF 16 s && isVF s a) = true ∧ (isF 16 s && isVF s b) = true then (match bothF s a b with | some v => .ok v | none => .error 13) else .error 14
end Go.Proofs.YtlooahbfpmigfaaGreat
end
section
set_option linter.unusedVariables false
set_option linter.unusedSimpArgs false
namespace Go.Proofs.YtlooahbfpmigfaaGreat
open Go Go.MV Go.RowKit
theorem mergeF_mem {α : Type} {cmp : α → α → Int} {bo : α → α → α} {P : α → Prop} (hbo : ∀ x y, P x → P y → P (bo x y)) : ∀ a b : List α, (∀ x ∈ a, P x) → (∀ x ∈ b, P x) → ∀ x ∈ mergeF cmp bo a b, P x := by
  intro a b
  induction a, b using mergeF.induct cmp with
  | case1 b => intro _ h; rwa [mergeF]
  | case2 a h0 => intro h _; rw [merge_nil]; exact h
  | case3 x a y b hlt ih =>
    intro h1 h2 z hz
    rw [mergeF, if_pos hlt] at hz
    rcases List.mem_cons.1 hz with rfl | hz
    · exact h1 _ (.head _)
    · exact ih (fun x hx => h1 x (.tail _ hx)) h2 z hz
  | case4 x a y b hlt hgt ih =>
    intro h1 h2 z hz
    rw [mergeF, if_neg hlt, if_pos hgt] at hz
    rcases List.mem_cons.1 hz with rfl | hz
    · exact h2 _ (.head _)
    · exact ih h1 (fun x hx => h2 x (.tail _ hx)) z hz
  | case5 x a y b hlt hgt ih =>
    intro h1 h2 z hz
    rw [mergeF, if_neg hlt, if_neg hgt] at hz
    rcases List.mem_cons.1 hz with rfl | hz
    · exact hbo _ _ (h1 _ (.head _)) (h2 _ (.head _))
    · exact ih (fun x hx => h1 x (.tail _ hx)) (fun x hx => h2 x (.tail _ hx)) z hz
theorem join_ok {a b : List Tk} (ha : ∀ t ∈ a, okTk t) (hb : ∀ t ∈ b, okTk t) : ∀ t ∈ joinF a b, okTk t := mergeF_mem (P := okTk) (fun x y hx hy => by unfold okTk Go.MV.bothT at *; dsimp only; split <;> assumption) a b ha hb
theorem goE_ok {κ : Type} {f : Val → Val → Option Val} {P : κ → Prop} {Q : Val → Prop} : ∀ {l : List (Ent κ)} {x : List (κ × Val)}, (∀ e ∈ l, P e.1 ∧ Q e.2.1 ∧ ∀ y, e.2.2 = some y → Q y ∧ ∀ v, f e.2.1 y = some v → Q v) → goE f l = some x → ∀ p ∈ x, P p.1 ∧ Q p.2
  | [], x, _, h => by simp [goE] at h; subst h; simp
  | e :: l, x, hl, h => by
    rw [goE] at h
    cases ho : ofE f e with
    | none => rw [ho] at h; cases h
    | some v =>
      rw [ho] at h
      cases hg : goE f l with
      | none => rw [hg] at h; cases h
      | some y =>
        rw [hg] at h
        simp at h
        subst h
        obtain ⟨h1, h2, h3⟩ := hl e (.head _)
        intro p hp
        rcases List.mem_cons.1 hp with rfl | hp
        · refine ⟨h1, ?_⟩
          unfold ofE at ho
          cases he : e.2.2 with
          | none => rw [he] at ho; injection ho with ho; subst ho; exact h2
          | some y => rw [he] at ho; exact (h3 y he).2 v ho
        · exact goE_ok (fun e he => hl e (.tail _ he)) hg p hp
theorem zip_m1 {α β : Type} {a : List α} {b : List β} {x : α} {y : β} (h : (x, y) ∈ a.zip b) : x ∈ a := (List.of_mem_zip h).1
theorem zip_m2 {α β : Type} {a : List α} {b : List β} {x : α} {y : β} (h : (x, y) ∈ a.zip b) : y ∈ b := (List.of_mem_zip h).2
theorem okV_mk {n m : Int} {s : List Bs} {c : List (List Tk)} {w : List Val} : okV (.mk n m s c w) ↔ (0 ≤ n ∧ n < 18446744073709551616) ∧ (0 ≤ m ∧ m < 18446744073709551616) ∧ (∀ x ∈ c, ∀ t ∈ x, okTk t) ∧ ∀ x ∈ w, okV x := by rw [okV, okVs_iff]
theorem cap_some {o : Option Val} {v : Val} (h : capF o = some v) : o = some v := by
  cases o with
  | none => cases h
  | some u =>
    unfold capF at h
    simp only [Option.bind_some] at h
    split at h
    · cases h
    · exact h
theorem okV_both : ∀ (d : Nat) (t : Sch), isF d t = true → ∀ a b v : Val, okV a → okV b → bothF t a b = some v → okV v
  | 0, t, h => by simp [isF] at h
  | d + 1, .mk k ins, h => by
    rw [isF] at h
    simp only [Bool.and_eq_true, List.all_eq_true, beq_iff_eq] at h
    rintro ⟨n1, m1, s1, c1, w1⟩ ⟨n2, m2, s2, c2, w2⟩ v ha hb hv
    rw [bothF_mk] at hv
    replace hv := cap_some hv
    have a0 := okV_mk.1 ha
    have b0 := okV_mk.1 hb
    rcases k8_of h.1 with rfl | rfl | rfl | rfl | rfl | rfl | rfl | rfl
    · injection hv with hv; subst hv
      exact okV_mk.2 ⟨by simp only [Val.nv]; omega, by omega, by simp, by simp⟩
    · injection hv with hv; subst hv
      exact okV_mk.2 ⟨by simp only [Val.nv]; omega, by omega, by simp, by simp⟩
    · injection hv with hv; subst hv
      exact okV_mk.2 ⟨by omega, by omega, by simp, by simp⟩
    · obtain ⟨t1, rfl⟩ := one_ins h.1 (by decide)
      have ih := okV_both d t1 (h.2 _ (by simp))
      replace hv : mapsF (bothF t1) (.mk n1 m1 s1 c1 w1) (.mk n2 m2 s2 c2 w2) = some v := by rw [← hv]; simp [bothB, bothL]
      unfold mapsF at hv
      obtain ⟨x, hx, rfl⟩ := Option.map_eq_some_iff.1 hv
      have := goE_ok (P := fun _ => True) (Q := okV) (fun e he => by
        obtain ⟨p, q⟩ := mergeE_mem _ _ _ e he
        have h1 : okV e.2.1 := p.elim (fun h => a0.2.2.2 _ (zip_m2 h)) (fun h => b0.2.2.2 _ (zip_m2 h))
        refine ⟨trivial, h1, fun y hy => ?_⟩
        obtain ⟨q1, k, q2⟩ := q y hy
        exact ⟨b0.2.2.2 _ (zip_m2 q2), fun v hv => ih _ _ v h1 (b0.2.2.2 _ (zip_m2 q2)) hv⟩) hx
      refine okV_mk.2 ⟨by omega, by omega, by simp, fun y hy => ?_⟩
      obtain ⟨p, hp, rfl⟩ := List.mem_map.1 hy
      exact (this p hp).2
    · obtain ⟨t1, t2, rfl⟩ := two_of h.1
      have ih1 := okV_both d t1 (h.2 _ (by simp))
      have ih2 := okV_both d t2 (h.2 _ (by simp))
      replace hv : pairF2 [bothF t1, bothF t2] (.mk n1 m1 s1 c1 w1) (.mk n2 m2 s2 c2 w2) = some v := by rw [← hv]; simp [bothB, bothL]
      unfold pairF2 at hv
      obtain ⟨x, hx, rfl⟩ := Option.map_eq_some_iff.1 hv
      refine okV_mk.2 ⟨by omega, by omega, by simp, ?_⟩
      simp only [Val.vv] at hx
      match w1, w2, a0, b0, hx with
      | [], _, _, _, hx => simp [goP] at hx; subst hx; simp
      | _ :: _, [], _, _, hx => simp [goP] at hx; subst hx; simp
      | [x1], y1 :: w2, a0, b0, hx =>
        simp only [goP] at hx
        cases hf : bothF t1 x1 y1 with
        | none => rw [hf] at hx; cases hx
        | some u => rw [hf] at hx; simp at hx; subst hx; simp; exact ih1 _ _ _ (a0.2.2.2 _ (by simp)) (b0.2.2.2 _ (by simp)) hf
      | x1 :: x2 :: w1, [y1], a0, b0, hx =>
        simp only [goP] at hx
        cases hf : bothF t1 x1 y1 with
        | none => rw [hf] at hx; cases hx
        | some u => rw [hf] at hx; simp at hx; subst hx; simp; exact ih1 _ _ _ (a0.2.2.2 _ (by simp)) (b0.2.2.2 _ (by simp)) hf
      | x1 :: x2 :: w1, y1 :: y2 :: w2, a0, b0, hx =>
        simp only [goP] at hx
        cases hf : bothF t1 x1 y1 with
        | none => rw [hf] at hx; cases hx
        | some u =>
          rw [hf] at hx
          cases hg : bothF t2 x2 y2 with
          | none => rw [hg] at hx; cases hx
          | some u2 =>
            rw [hg] at hx
            simp at hx
            subst hx
            simp
            exact ⟨ih1 _ _ _ (a0.2.2.2 _ (by simp)) (b0.2.2.2 _ (by simp)) hf, ih2 _ _ _ (a0.2.2.2 _ (by simp)) (b0.2.2.2 _ (by simp)) hg⟩
    · injection hv with hv; subst hv
      unfold laterF
      split
      · exact hb
      · exact ha
    · injection hv with hv; subst hv
      unfold clocksF
      split
      · exact hb
      · split
        · exact ha
        · rename_i h1 h2
          refine okV_mk.2 ⟨by omega, by omega, ?_, by simp⟩
          intro x hx
          rw [List.mem_singleton] at hx
          subst hx
          simp only [Val.cv] at h1 h2 ⊢
          cases c1 with
          | nil => simp at h1
          | cons x c1 =>
            cases c2 with
            | nil => simp at h2
            | cons y c2 => exact join_ok (a0.2.2.1 _ (by simp)) (b0.2.2.1 _ (by simp))
    · obtain ⟨t1, rfl⟩ := one_ins h.1 (by decide)
      have ih := okV_both d t1 (h.2 _ (by simp))
      replace hv : causesF (bothF t1) (.mk n1 m1 s1 c1 w1) (.mk n2 m2 s2 c2 w2) = some v := by rw [← hv]; simp [bothB, bothL]
      unfold causesF at hv
      obtain ⟨x, hx, rfl⟩ := Option.map_eq_some_iff.1 hv
      have := goE_ok (P := fun k => ∀ t ∈ k, okTk t) (Q := okV) (fun e he => by
        obtain ⟨p, q⟩ := mergeE_mem _ _ _ e (List.mem_filter.1 he).1
        have h1 : okV e.2.1 := p.elim (fun h => a0.2.2.2 _ (zip_m2 h)) (fun h => b0.2.2.2 _ (zip_m2 h))
        refine ⟨p.elim (fun h => a0.2.2.1 _ (zip_m1 h)) (fun h => b0.2.2.1 _ (zip_m1 h)), h1, fun y hy => ?_⟩
        obtain ⟨q1, k, q2⟩ := q y hy
        exact ⟨b0.2.2.2 _ (zip_m2 q2), fun v hv => ih _ _ v h1 (b0.2.2.2 _ (zip_m2 q2)) hv⟩) hx
      refine okV_mk.2 ⟨by omega, by omega, fun y hy => ?_, fun y hy => ?_⟩
      · obtain ⟨p, hp, rfl⟩ := List.mem_map.1 hy
        exact (this p hp).1
      · obtain ⟨p, hp, rfl⟩ := List.mem_map.1 hy
        exact (this p hp).2
end Go.Proofs.YtlooahbfpmigfaaGreat
end
section
set_option linter.unusedVariables false
set_option linter.unusedSimpArgs false
namespace Go.Proofs.YtlooahbfpmigfaaGreat
open Go Go.MV Go.RowKit
abbrev ltB (a b : Bs) : Prop := Op.bytesLess a b = true
theorem ltB_cons {x y : UInt8} {a b : Bs} : ltB (x :: a) (y :: b) ↔ x < y ∨ (x = y ∧ ltB a b) := by
  unfold ltB
  simp [Op.bytesLess]
theorem ltB_irrefl : ∀ a : Bs, ¬ ltB a a
  | [] => by simp [ltB, Op.bytesLess]
  | x :: a => by
    rw [ltB_cons]
    rintro (h | ⟨_, h⟩)
    · exact UInt8.lt_irrefl _ h
    · exact ltB_irrefl a h
theorem ltB_trans : ∀ {a b c : Bs}, ltB a b → ltB b c → ltB a c
  | _, [], _, h, _ => by simp [ltB, Op.bytesLess] at h
  | _, _ :: _, [], _, h => by simp [ltB, Op.bytesLess] at h
  | [], _ :: _, _ :: _, _, _ => by simp [ltB, Op.bytesLess]
  | x :: a, y :: b, z :: c, h1, h2 => by
    rw [ltB_cons] at h1 h2 ⊢
    rcases h1 with h1 | ⟨rfl, h1⟩
    · rcases h2 with h2 | ⟨rfl, h2⟩
      · exact .inl (UInt8.lt_trans h1 h2)
      · exact .inl h1
    · rcases h2 with h2 | ⟨rfl, h2⟩
      · exact .inl h2
      · exact .inr ⟨rfl, ltB_trans h1 h2⟩
theorem ltB_total : ∀ a b : Bs, ltB a b ∨ a = b ∨ ltB b a
  | [], [] => .inr (.inl rfl)
  | [], _ :: _ => .inl (by simp [ltB, Op.bytesLess])
  | _ :: _, [] => .inr (.inr (by simp [ltB, Op.bytesLess]))
  | x :: a, y :: b => by
    rw [ltB_cons, ltB_cons]
    by_cases h1 : x < y
    · exact .inl (.inl h1)
    · by_cases h2 : y < x
      · exact .inr (.inr (.inl h2))
      · have e : x = y := UInt8.le_antisymm (UInt8.not_lt.1 h2) (UInt8.not_lt.1 h1)
        subst e
        rcases ltB_total a b with h | rfl | h
        · exact .inl (.inr ⟨rfl, h⟩)
        · exact .inr (.inl rfl)
        · exact .inr (.inr (.inr ⟨rfl, h⟩))
theorem ltB_asymm {a b : Bs} (h : ltB a b) : ¬ ltB b a := fun h2 => ltB_irrefl _ (ltB_trans h h2)
def Up (l : List Bs) : Prop := l.Pairwise ltB
theorem rises_up : ∀ l : List Bs, risesF l = true ↔ Up l
  | [] => by simp [risesF, Up]
  | [x] => by simp [risesF, Up]
  | x :: y :: l => by
    rw [risesF, Bool.and_eq_true, rises_up (y :: l)]
    unfold Up
    rw [List.pairwise_cons (a := x)]
    constructor
    · rintro ⟨h1, h2⟩
      refine ⟨fun z hz => ?_, h2⟩
      rcases List.mem_cons.1 hz with rfl | hz
      · exact h1
      · exact ltB_trans h1 ((List.pairwise_cons.1 h2).1 z hz)
    · rintro ⟨h1, h2⟩
      exact ⟨h1 y (.head _), h2⟩
theorem up_cons {x : Bs} {l : List Bs} : Up (x :: l) ↔ (∀ y ∈ l, ltB x y) ∧ Up l := List.pairwise_cons
theorem up_ext : ∀ {a b : List Bs}, Up a → Up b → (∀ x, x ∈ a ↔ x ∈ b) → a = b
  | [], [], _, _, _ => rfl
  | [], y :: b, _, _, h => absurd ((h y).2 (.head _)) (by simp)
  | x :: a, [], _, _, h => absurd ((h x).1 (.head _)) (by simp)
  | x :: a, y :: b, ha, hb, h => by
    have ha' := up_cons.1 ha
    have hb' := up_cons.1 hb
    have e : x = y := by
      rcases List.mem_cons.1 ((h x).1 (.head _)) with e | hx
      · exact e
      · rcases List.mem_cons.1 ((h y).2 (.head _)) with e | hy
        · exact e.symm
        · exact absurd (hb'.1 x hx) (ltB_asymm (ha'.1 y hy))
    subst e
    congr 1
    refine up_ext ha'.2 hb'.2 fun z => ⟨fun hz => ?_, fun hz => ?_⟩
    · rcases List.mem_cons.1 ((h z).1 (.tail _ hz)) with rfl | hz2
      · exact absurd (ha'.1 _ hz) (ltB_irrefl _)
      · exact hz2
    · rcases List.mem_cons.1 ((h z).2 (.tail _ hz)) with rfl | hz2
      · exact absurd (hb'.1 _ hz) (ltB_irrefl _)
      · exact hz2
theorem mem_both : ∀ (a b : List Bs) (z : Bs), z ∈ bothX a b ↔ z ∈ a ∨ z ∈ b := by
  intro a b
  induction a, b using bothX.induct with
  | case1 => simp [bothX]
  | case2 x a ih => intro z; rw [bothX, List.mem_cons, ih]; simp
  | case3 y b ih => intro z; rw [bothX, List.mem_cons, ih]; simp
  | case4 x a y b h ih => intro z; rw [bothX, if_pos h, List.mem_cons, ih]; simp [or_assoc]
  | case5 x a y b h h2 ih => intro z; rw [bothX, if_neg h, if_pos h2, List.mem_cons, ih]; simp only [List.mem_cons]; exact or_left_comm
  | case6 x a y b h h2 ih =>
    intro z
    have e : x = y := by
      rcases ltB_total x y with h3 | h3 | h3
      · exact absurd h3 h
      · exact h3
      · exact absurd h3 h2
    subst e
    rw [bothX, if_neg h, if_neg h2, List.mem_cons, ih]
    simp only [List.mem_cons]
    constructor
    · rintro (h | h | h)
      · exact .inl (.inl h)
      · exact .inl (.inr h)
      · exact .inr (.inr h)
    · rintro ((h | h) | (h | h))
      · exact .inl h
      · exact .inr (.inl h)
      · exact .inl h
      · exact .inr (.inr h)
theorem up_both : ∀ (a b : List Bs), Up a → Up b → Up (bothX a b) := by
  intro a b
  induction a, b using bothX.induct with
  | case1 => intro _ _; simp [bothX, Up]
  | case2 x a ih =>
    intro ha hb
    rw [bothX]
    refine up_cons.2 ⟨fun z hz => ?_, ih (up_cons.1 ha).2 hb⟩
    rw [mem_both] at hz
    exact (up_cons.1 ha).1 z (by simpa using hz)
  | case3 y b ih =>
    intro ha hb
    rw [bothX]
    refine up_cons.2 ⟨fun z hz => ?_, ih ha (up_cons.1 hb).2⟩
    rw [mem_both] at hz
    exact (up_cons.1 hb).1 z (by simpa using hz)
  | case4 x a y b h ih =>
    intro ha hb
    rw [bothX, if_pos h]
    refine up_cons.2 ⟨fun z hz => ?_, ih (up_cons.1 ha).2 hb⟩
    rw [mem_both] at hz
    rcases hz with hz | hz
    · exact (up_cons.1 ha).1 z hz
    · rcases List.mem_cons.1 hz with rfl | hz
      · exact h
      · exact ltB_trans h ((up_cons.1 hb).1 z hz)
  | case5 x a y b h h2 ih =>
    intro ha hb
    rw [bothX, if_neg h, if_pos h2]
    refine up_cons.2 ⟨fun z hz => ?_, ih ha (up_cons.1 hb).2⟩
    rw [mem_both] at hz
    rcases hz with hz | hz
    · rcases List.mem_cons.1 hz with rfl | hz
      · exact h2
      · exact ltB_trans h2 ((up_cons.1 ha).1 z hz)
    · exact (up_cons.1 hb).1 z hz
  | case6 x a y b h h2 ih =>
    intro ha hb
    have e : x = y := by
      rcases ltB_total x y with h3 | h3 | h3
      · exact absurd h3 h
      · exact h3
      · exact absurd h3 h2
    subst e
    rw [bothX, if_neg h, if_neg h2]
    refine up_cons.2 ⟨fun z hz => ?_, ih (up_cons.1 ha).2 (up_cons.1 hb).2⟩
    rw [mem_both] at hz
    rcases hz with hz | hz
    · exact (up_cons.1 ha).1 z hz
    · exact (up_cons.1 hb).1 z hz
end Go.Proofs.YtlooahbfpmigfaaGreat
end
section
set_option linter.unusedVariables false
set_option linter.unusedSimpArgs false
namespace Go.Proofs.YtlooahbfpmigfaaGreat
open Go Go.MV Go.RowKit
section
variable {κ : Type} {cmp : κ → κ → Int}
structure OrdK (cmp : κ → κ → Int) : Prop where
  irr : ∀ a, ¬ cmp a a < 0
  tr : ∀ a b c, cmp a b < 0 → cmp b c < 0 → cmp a c < 0
  tot : ∀ a b, ¬ cmp a b < 0 → ¬ cmp b a < 0 → a = b
open Classical in
noncomputable def look (l : List (κ × Val)) (k : κ) : Option Val := match l with
  | [] => none
  | e :: l => if e.1 = k then some e.2 else look l k
open Classical in
theorem look_cons (e : κ × Val) (l : List (κ × Val)) (k : κ) : look (e :: l) k = if e.1 = k then some e.2 else look l k := rfl
def SrtK (cmp : κ → κ → Int) (l : List (κ × Val)) : Prop := l.Pairwise fun x y => cmp x.1 y.1 < 0
def HasK (l : List (κ × Val)) (k : κ) : Prop := ∃ e ∈ l, e.1 = k
theorem look_none {l : List (κ × Val)} {k : κ} (h : ¬ HasK l k) : look l k = none := by
  induction l with
  | nil => rfl
  | cons e l ih =>
    rw [look, if_neg (fun he => h ⟨e, .head _, he⟩)]
    exact ih fun ⟨x, hx, e2⟩ => h ⟨x, .tail _ hx, e2⟩
theorem look_mem {l : List (κ × Val)} {k : κ} {v : Val} (h : look l k = some v) : (k, v) ∈ l := by
  induction l with
  | nil => cases h
  | cons e l ih =>
    rw [look] at h
    split at h
    · rename_i he
      injection h with h
      subst he; subst h
      exact .head _
    · exact .tail _ (ih h)
theorem look_has {l : List (κ × Val)} {k : κ} : HasK l k ↔ ∃ v, look l k = some v := by
  constructor
  · intro h
    cases hl : look l k with
    | some v => exact ⟨v, rfl⟩
    | none =>
      exfalso
      induction l with
      | nil => obtain ⟨e, he, _⟩ := h; cases he
      | cons e l ih =>
        rw [look] at hl
        split at hl
        · cases hl
        · rename_i hne
          obtain ⟨x, hx, e2⟩ := h
          rcases List.mem_cons.1 hx with rfl | hx
          · exact hne e2
          · exact ih ⟨x, hx, e2⟩ hl
  · rintro ⟨v, h⟩
    exact ⟨_, look_mem h, rfl⟩
theorem srt_cons {e : κ × Val} {l : List (κ × Val)} : SrtK cmp (e :: l) ↔ (∀ y ∈ l, cmp e.1 y.1 < 0) ∧ SrtK cmp l := List.pairwise_cons
theorem not_has (ho : OrdK cmp) {k : κ} {l : List (κ × Val)} (h : ∀ y ∈ l, cmp k y.1 < 0) : ¬ HasK l k := fun ⟨e, he, e2⟩ => ho.irr k (by have := h e he; rwa [e2] at this)
theorem mem_look (ho : OrdK cmp) {l : List (κ × Val)} (hs : SrtK cmp l) {e : κ × Val} (h : e ∈ l) : look l e.1 = some e.2 := by
  induction l with
  | nil => cases h
  | cons x l ih =>
    have hs' := srt_cons.1 hs
    rw [look]
    rcases List.mem_cons.1 h with rfl | h
    · rw [if_pos rfl]
    · rw [if_neg]
      · exact ih hs'.2 h
      · intro e2
        have := hs'.1 e h
        rw [e2] at this
        exact ho.irr _ this
theorem look_ext (ho : OrdK cmp) : ∀ {a b : List (κ × Val)}, SrtK cmp a → SrtK cmp b → (∀ k, look a k = look b k) → a = b
  | [], [], _, _, _ => rfl
  | [], y :: b, _, _, h => by
    have := h y.1
    rw [look, look, if_pos rfl] at this
    cases this
  | x :: a, [], _, _, h => by
    have := h x.1
    rw [look, look, if_pos rfl] at this
    cases this
  | x :: a, y :: b, ha, hb, h => by
    have ha' := srt_cons.1 ha
    have hb' := srt_cons.1 hb
    have hk : x.1 = y.1 := by
      refine ho.tot _ _ (fun hlt => ?_) (fun hlt => ?_)
      · have h1 := h x.1
        rw [mem_look ho ha (.head _), look_none (not_has ho fun z hz => ?_)] at h1
        · cases h1
        · rcases List.mem_cons.1 hz with rfl | hz
          · exact hlt
          · exact ho.tr _ _ _ hlt (hb'.1 z hz)
      · have h1 := h y.1
        rw [mem_look ho hb (.head _), look_none (not_has ho fun z hz => ?_)] at h1
        · cases h1
        · rcases List.mem_cons.1 hz with rfl | hz
          · exact hlt
          · exact ho.tr _ _ _ hlt (ha'.1 z hz)
    have hv : x.2 = y.2 := by
      have h1 := h x.1
      rw [mem_look ho ha (.head _), hk, mem_look ho hb (.head _)] at h1
      injection h1
    have e : x = y := Prod.ext hk hv
    subst e
    congr 1
    refine look_ext ho ha'.2 hb'.2 fun k => ?_
    by_cases hkx : x.1 = k
    · subst hkx
      rw [look_none (not_has ho ha'.1), look_none (not_has ho hb'.1)]
    · have h1 := h k
      rw [look, look, if_neg hkx, if_neg hkx] at h1
      exact h1
def fillE (f : Val → Val → Val) (e : Ent κ) : Val := match e.2.2 with | none => e.2.1 | some w => f e.2.1 w
def mergeG (cmp : κ → κ → Int) (f : Val → Val → Val) (a b : List (κ × Val)) : List (κ × Val) := (mergeE cmp a b).map fun e => (e.1, fillE f e)
def comb (f : Val → Val → Val) : Option Val → Option Val → Option Val
  | none, y => y
  | x, none => x
  | some x, some y => some (f x y)
theorem comb_none (f : Val → Val → Val) (x : Option Val) : comb f x none = x := by cases x <;> rfl
theorem merge_has {f : Val → Val → Val} (ho : OrdK cmp) (a b : List (κ × Val)) (k : κ) : HasK (mergeG cmp f a b) k ↔ HasK a k ∨ HasK b k := by
  unfold HasK mergeG
  simp only [List.mem_map]
  constructor
  · rintro ⟨e, ⟨x, hx, rfl⟩, rfl⟩
    rcases (mergeE_mem cmp a b x hx).1 with h | h
    · exact .inl ⟨_, h, rfl⟩
    · exact .inr ⟨_, h, rfl⟩
  · intro h
    suffices hs : ∃ x ∈ mergeE cmp a b, x.1 = k by
      obtain ⟨x, hx, e⟩ := hs
      exact ⟨_, ⟨x, hx, rfl⟩, e⟩
    revert h
    induction a, b using mergeE.induct cmp with
    | case1 => rintro (⟨e, he, _⟩ | ⟨e, he, _⟩) <;> cases he
    | case2 x a ih =>
      rw [mergeE]
      rintro (⟨e, he, rfl⟩ | ⟨e, he, _⟩)
      · rcases List.mem_cons.1 he with rfl | he
        · exact ⟨_, .head _, rfl⟩
        · obtain ⟨z, hz, e2⟩ := ih (.inl ⟨e, he, rfl⟩)
          exact ⟨z, .tail _ hz, e2⟩
      · cases he
    | case3 y b ih =>
      rw [mergeE]
      rintro (⟨e, he, _⟩ | ⟨e, he, rfl⟩)
      · cases he
      · rcases List.mem_cons.1 he with rfl | he
        · exact ⟨_, .head _, rfl⟩
        · obtain ⟨z, hz, e2⟩ := ih (.inr ⟨e, he, rfl⟩)
          exact ⟨z, .tail _ hz, e2⟩
    | case4 x a y b hlt ih =>
      rw [mergeE, if_pos hlt]
      rintro (⟨e, he, rfl⟩ | h)
      · rcases List.mem_cons.1 he with rfl | he
        · exact ⟨_, .head _, rfl⟩
        · obtain ⟨z, hz, e2⟩ := ih (.inl ⟨e, he, rfl⟩)
          exact ⟨z, .tail _ hz, e2⟩
      · obtain ⟨z, hz, e2⟩ := ih (.inr h)
        exact ⟨z, .tail _ hz, e2⟩
    | case5 x a y b hlt hgt ih =>
      rw [mergeE, if_neg hlt, if_pos hgt]
      rintro (h | ⟨e, he, rfl⟩)
      · obtain ⟨z, hz, e2⟩ := ih (.inl h)
        exact ⟨z, .tail _ hz, e2⟩
      · rcases List.mem_cons.1 he with rfl | he
        · exact ⟨_, .head _, rfl⟩
        · obtain ⟨z, hz, e2⟩ := ih (.inr ⟨e, he, rfl⟩)
          exact ⟨z, .tail _ hz, e2⟩
    | case6 x a y b hlt hgt ih =>
      have exy := ho.tot _ _ hlt hgt
      rw [mergeE, if_neg hlt, if_neg hgt]
      rintro (⟨e, he, rfl⟩ | ⟨e, he, rfl⟩)
      · rcases List.mem_cons.1 he with rfl | he
        · exact ⟨_, .head _, rfl⟩
        · obtain ⟨z, hz, e2⟩ := ih (.inl ⟨e, he, rfl⟩)
          exact ⟨z, .tail _ hz, e2⟩
      · rcases List.mem_cons.1 he with rfl | he
        · exact ⟨_, .head _, exy⟩
        · obtain ⟨z, hz, e2⟩ := ih (.inr ⟨e, he, rfl⟩)
          exact ⟨z, .tail _ hz, e2⟩
theorem keys_lt (ho : OrdK cmp) {f : Val → Val → Val} {k : κ} {a b : List (κ × Val)} (ha : ∀ y ∈ a, cmp k y.1 < 0) (hb : ∀ y ∈ b, cmp k y.1 < 0) : ∀ y ∈ mergeG cmp f a b, cmp k y.1 < 0 := by
  intro y hy
  rcases (merge_has (f := f) ho a b y.1).1 ⟨y, hy, rfl⟩ with ⟨e, he, e2⟩ | ⟨e, he, e2⟩
  · rw [← e2]; exact ha e he
  · rw [← e2]; exact hb e he
theorem merge_srt (ho : OrdK cmp) (f : Val → Val → Val) : ∀ a b : List (κ × Val), SrtK cmp a → SrtK cmp b → SrtK cmp (mergeG cmp f a b) := by
  intro a b
  induction a, b using mergeE.induct cmp with
  | case1 => intro _ _; simp [mergeG, mergeE, SrtK]
  | case2 x a ih =>
    intro ha hb
    have ha' := srt_cons.1 ha
    have : mergeG cmp f (x :: a) [] = (x.1, x.2) :: mergeG cmp f a [] := by unfold mergeG; rw [mergeE]; rfl
    rw [this]
    exact srt_cons.2 ⟨keys_lt ho ha'.1 (by simp), ih ha'.2 hb⟩
  | case3 y b ih =>
    intro ha hb
    have hb' := srt_cons.1 hb
    have : mergeG cmp f [] (y :: b) = (y.1, y.2) :: mergeG cmp f [] b := by unfold mergeG; rw [mergeE]; rfl
    rw [this]
    exact srt_cons.2 ⟨keys_lt ho (by simp) hb'.1, ih ha hb'.2⟩
  | case4 x a y b hlt ih =>
    intro ha hb
    have ha' := srt_cons.1 ha
    have hb' := srt_cons.1 hb
    have : mergeG cmp f (x :: a) (y :: b) = (x.1, x.2) :: mergeG cmp f a (y :: b) := by unfold mergeG; rw [mergeE, if_pos hlt]; rfl
    rw [this]
    refine srt_cons.2 ⟨keys_lt ho ha'.1 fun z hz => ?_, ih ha'.2 hb⟩
    rcases List.mem_cons.1 hz with rfl | hz
    · exact hlt
    · exact ho.tr _ _ _ hlt (hb'.1 z hz)
  | case5 x a y b hlt hgt ih =>
    intro ha hb
    have ha' := srt_cons.1 ha
    have hb' := srt_cons.1 hb
    have : mergeG cmp f (x :: a) (y :: b) = (y.1, y.2) :: mergeG cmp f (x :: a) b := by unfold mergeG; rw [mergeE, if_neg hlt, if_pos hgt]; rfl
    rw [this]
    refine srt_cons.2 ⟨keys_lt ho (fun z hz => ?_) hb'.1, ih ha hb'.2⟩
    rcases List.mem_cons.1 hz with rfl | hz
    · exact hgt
    · exact ho.tr _ _ _ hgt (ha'.1 z hz)
  | case6 x a y b hlt hgt ih =>
    intro ha hb
    have ha' := srt_cons.1 ha
    have hb' := srt_cons.1 hb
    have exy := ho.tot _ _ hlt hgt
    have : mergeG cmp f (x :: a) (y :: b) = (x.1, f x.2 y.2) :: mergeG cmp f a b := by unfold mergeG; rw [mergeE, if_neg hlt, if_neg hgt]; rfl
    rw [this]
    exact srt_cons.2 ⟨keys_lt ho ha'.1 (fun z hz => by show cmp x.1 z.1 < 0; rw [exy]; exact hb'.1 z hz), ih ha'.2 hb'.2⟩
theorem look_merge (ho : OrdK cmp) (f : Val → Val → Val) : ∀ a b : List (κ × Val), SrtK cmp a → SrtK cmp b → ∀ k, look (mergeG cmp f a b) k = comb f (look a k) (look b k) := by
  intro a b
  induction a, b using mergeE.induct cmp with
  | case1 => intro _ _ k; simp [mergeG, mergeE, look, comb]
  | case2 x a ih =>
    intro ha hb k
    have ha' := srt_cons.1 ha
    have : mergeG cmp f (x :: a) [] = (x.1, x.2) :: mergeG cmp f a [] := by unfold mergeG; rw [mergeE]; rfl
    rw [this, look_cons, look_cons, ih ha'.2 hb]
    rw [show look ([] : List (κ × Val)) k = none from rfl, comb_none, comb_none]
  | case3 y b ih =>
    intro ha hb k
    have hb' := srt_cons.1 hb
    have : mergeG cmp f [] (y :: b) = (y.1, y.2) :: mergeG cmp f [] b := by unfold mergeG; rw [mergeE]; rfl
    rw [this, look_cons, ih ha hb'.2]
    rw [show look ([] : List (κ × Val)) k = none from rfl, look_cons]
    rfl
  | case4 x a y b hlt ih =>
    intro ha hb k
    have ha' := srt_cons.1 ha
    have hb' := srt_cons.1 hb
    have : mergeG cmp f (x :: a) (y :: b) = (x.1, x.2) :: mergeG cmp f a (y :: b) := by unfold mergeG; rw [mergeE, if_pos hlt]; rfl
    rw [this, look_cons, ih ha'.2 hb]
    by_cases hk : x.1 = k
    · subst hk
      rw [if_pos rfl, mem_look ho ha (.head _), look_none (not_has ho (k := x.1) (l := y :: b) fun z hz => ?_)]
      · rfl
      · rcases List.mem_cons.1 hz with rfl | hz
        · exact hlt
        · exact ho.tr _ _ _ hlt (hb'.1 z hz)
    · rw [if_neg hk]
      congr 1
      rw [look_cons, if_neg hk]
  | case5 x a y b hlt hgt ih =>
    intro ha hb k
    have ha' := srt_cons.1 ha
    have hb' := srt_cons.1 hb
    have : mergeG cmp f (x :: a) (y :: b) = (y.1, y.2) :: mergeG cmp f (x :: a) b := by unfold mergeG; rw [mergeE, if_neg hlt, if_pos hgt]; rfl
    rw [this, look_cons, ih ha hb'.2]
    by_cases hk : y.1 = k
    · subst hk
      rw [if_pos rfl, mem_look ho hb (.head _), look_none (not_has ho (k := y.1) (l := x :: a) fun z hz => ?_)]
      · rfl
      · rcases List.mem_cons.1 hz with rfl | hz
        · exact hgt
        · exact ho.tr _ _ _ hgt (ha'.1 z hz)
    · rw [if_neg hk]
      congr 1
      conv => rhs; rw [look_cons, if_neg hk]
  | case6 x a y b hlt hgt ih =>
    intro ha hb k
    have ha' := srt_cons.1 ha
    have hb' := srt_cons.1 hb
    have exy := ho.tot _ _ hlt hgt
    have : mergeG cmp f (x :: a) (y :: b) = (x.1, f x.2 y.2) :: mergeG cmp f a b := by unfold mergeG; rw [mergeE, if_neg hlt, if_neg hgt]; rfl
    rw [this, look_cons, ih ha'.2 hb'.2]
    by_cases hk : x.1 = k
    · subst hk
      rw [if_pos rfl, mem_look ho ha (.head _), exy, mem_look ho hb (.head _)]
      rfl
    · rw [if_neg hk]
      conv => rhs; rw [look_cons, if_neg hk, look_cons, if_neg (exy ▸ hk)]
structure SemiL (P : Val → Prop) (f : Val → Val → Val) : Prop where
  cl : ∀ x y, P x → P y → P (f x y)
  comm : ∀ x y, P x → P y → f x y = f y x
  assoc : ∀ x y z, P x → P y → P z → f (f x y) z = f x (f y z)
  idem : ∀ x, P x → f x x = x
def AllV (P : Val → Prop) (l : List (κ × Val)) : Prop := ∀ e ∈ l, P e.2
theorem look_allV {P : Val → Prop} {l : List (κ × Val)} (h : AllV P l) {k : κ} {v : Val} (hl : look l k = some v) : P v := h _ (look_mem hl)
theorem comb_P {P : Val → Prop} {f : Val → Val → Val} (hf : SemiL P f) {x y : Option Val} (hx : ∀ v, x = some v → P v) (hy : ∀ v, y = some v → P v) : ∀ v, comb f x y = some v → P v := by
  intro v h
  cases x with
  | none => exact hy v h
  | some x =>
    cases y with
    | none => exact hx v h
    | some y =>
      injection h with h
      subst h
      exact hf.cl _ _ (hx _ rfl) (hy _ rfl)
theorem comb_comm {P : Val → Prop} {f : Val → Val → Val} (hf : SemiL P f) {x y : Option Val} (hx : ∀ v, x = some v → P v) (hy : ∀ v, y = some v → P v) : comb f x y = comb f y x := by
  cases x with
  | none => rw [comb_none]; rfl
  | some x =>
    cases y with
    | none => rfl
    | some y => simp only [comb]; rw [hf.comm _ _ (hx _ rfl) (hy _ rfl)]
theorem comb_assoc {P : Val → Prop} {f : Val → Val → Val} (hf : SemiL P f) {x y z : Option Val} (hx : ∀ v, x = some v → P v) (hy : ∀ v, y = some v → P v) (hz : ∀ v, z = some v → P v) : comb f (comb f x y) z = comb f x (comb f y z) := by
  cases x with
  | none => rfl
  | some x =>
    cases y with
    | none => rfl
    | some y =>
      cases z with
      | none => rfl
      | some z => simp only [comb]; rw [hf.assoc _ _ _ (hx _ rfl) (hy _ rfl) (hz _ rfl)]
theorem comb_idem {P : Val → Prop} {f : Val → Val → Val} (hf : SemiL P f) {x : Option Val} (hx : ∀ v, x = some v → P v) : comb f x x = x := by
  cases x with
  | none => rfl
  | some x => simp only [comb]; rw [hf.idem _ (hx _ rfl)]
theorem merge_allV {P : Val → Prop} {f : Val → Val → Val} (hf : SemiL P f) (ho : OrdK cmp) {a b : List (κ × Val)} (ha : SrtK cmp a) (hb : SrtK cmp b) (pa : AllV P a) (pb : AllV P b) : AllV P (mergeG cmp f a b) := fun e he => by
  have h := mem_look ho (merge_srt ho f a b ha hb) he
  rw [look_merge ho f a b ha hb] at h
  exact comb_P hf (fun v => look_allV pa) (fun v => look_allV pb) _ h
theorem mergeG_comm {P : Val → Prop} {f : Val → Val → Val} (hf : SemiL P f) (ho : OrdK cmp) {a b : List (κ × Val)} (ha : SrtK cmp a) (hb : SrtK cmp b) (pa : AllV P a) (pb : AllV P b) : mergeG cmp f a b = mergeG cmp f b a :=
  look_ext ho (merge_srt ho f a b ha hb) (merge_srt ho f b a hb ha) fun k => by
    rw [look_merge ho f a b ha hb, look_merge ho f b a hb ha, comb_comm hf (fun v => look_allV pa) (fun v => look_allV pb)]
theorem mergeG_assoc {P : Val → Prop} {f : Val → Val → Val} (hf : SemiL P f) (ho : OrdK cmp) {a b c : List (κ × Val)} (ha : SrtK cmp a) (hb : SrtK cmp b) (hc : SrtK cmp c) (pa : AllV P a) (pb : AllV P b) (pc : AllV P c) : mergeG cmp f (mergeG cmp f a b) c = mergeG cmp f a (mergeG cmp f b c) := by
  have hab := merge_srt ho f a b ha hb
  have hbc := merge_srt ho f b c hb hc
  refine look_ext ho (merge_srt ho f _ _ hab hc) (merge_srt ho f _ _ ha hbc) fun k => ?_
  rw [look_merge ho f _ _ hab hc, look_merge ho f a b ha hb, look_merge ho f _ _ ha hbc, look_merge ho f b c hb hc]
  exact comb_assoc hf (fun v => look_allV pa) (fun v => look_allV pb) (fun v => look_allV pc)
theorem mergeG_idem {P : Val → Prop} {f : Val → Val → Val} (hf : SemiL P f) (ho : OrdK cmp) {a : List (κ × Val)} (ha : SrtK cmp a) (pa : AllV P a) : mergeG cmp f a a = a :=
  look_ext ho (merge_srt ho f a a ha ha) ha fun k => by rw [look_merge ho f a a ha ha, comb_idem hf (fun v => look_allV pa)]
theorem mergeG_nil {f : Val → Val → Val} : ∀ a : List (κ × Val), mergeG cmp f a [] = a
  | [] => by simp [mergeG, mergeE]
  | x :: a => by
    have : mergeG cmp f (x :: a) [] = (x.1, x.2) :: mergeG cmp f a [] := by unfold mergeG; rw [mergeE]; rfl
    rw [this, mergeG_nil a]
variable {blw : κ → κ → Prop}
structure PoK (blw : κ → κ → Prop) (Q : κ → Prop) : Prop where
  irr : ∀ a, Q a → ¬ blw a a
  tr : ∀ a b c, Q a → Q b → Q c → blw a b → blw b c → blw a c
def AllK (Q : κ → Prop) (l : List (κ × Val)) : Prop := ∀ e ∈ l, Q e.1
def Dead (blw : κ → κ → Prop) (K : κ → Prop) (k : κ) : Prop := ∃ o, K o ∧ blw k o
open Classical in
noncomputable def topG (cmp : κ → κ → Int) (blw : κ → κ → Prop) (f : Val → Val → Val) (a b : List (κ × Val)) : List (κ × Val) := (mergeG cmp f a b).filter fun e => decide (¬ Dead blw (HasK (mergeG cmp f a b)) e.1)
theorem look_filter (q : κ → Bool) : ∀ (l : List (κ × Val)) (k : κ), look (l.filter fun e => q e.1) k = if q k = true then look l k else none
  | [], k => by simp [look]
  | e :: l, k => by
    by_cases hp : q e.1 = true
    · rw [List.filter_cons_of_pos (p := fun e : κ × Val => q e.1) hp, look_cons, look_filter q l k, look_cons]
      by_cases hk : e.1 = k
      · subst hk; simp [hp]
      · simp [hk]
    · rw [List.filter_cons_of_neg (p := fun e : κ × Val => q e.1) hp, look_filter q l k, look_cons]
      by_cases hk : e.1 = k
      · subst hk; simp [hp]
      · simp [hk]
def Or2 (a b : List (κ × Val)) (k : κ) : Prop := HasK a k ∨ HasK b k
open Classical in
theorem look_top (ho : OrdK cmp) {f : Val → Val → Val} {a b : List (κ × Val)} (ha : SrtK cmp a) (hb : SrtK cmp b) (k : κ) : look (topG cmp blw f a b) k = if Dead blw (Or2 a b) k then none else comb f (look a k) (look b k) := by
  unfold topG
  rw [look_filter (fun k => decide (¬ Dead blw (HasK (mergeG cmp f a b)) k)), look_merge ho f a b ha hb]
  have : Dead blw (HasK (mergeG cmp f a b)) k ↔ Dead blw (Or2 a b) k := by
    unfold Dead Or2
    simp only [merge_has ho]
  by_cases h : Dead blw (Or2 a b) k
  · rw [if_pos h, if_neg (by simpa using this.2 h)]
  · rw [if_neg h, if_pos (by simpa using fun h2 => h (this.1 h2))]
theorem top_srt (ho : OrdK cmp) {f : Val → Val → Val} {a b : List (κ × Val)} (ha : SrtK cmp a) (hb : SrtK cmp b) : SrtK cmp (topG cmp blw f a b) := (merge_srt ho f a b ha hb).filter _
theorem comb_some {f : Val → Val → Val} {x y : Option Val} : (∃ v, comb f x y = some v) ↔ (∃ v, x = some v) ∨ ∃ v, y = some v := by
  cases x <;> cases y <;> simp [comb]
theorem top_has (ho : OrdK cmp) {f : Val → Val → Val} {a b : List (κ × Val)} (ha : SrtK cmp a) (hb : SrtK cmp b) (k : κ) : HasK (topG cmp blw f a b) k ↔ ¬ Dead blw (Or2 a b) k ∧ Or2 a b k := by
  rw [look_has, look_top ho ha hb]
  by_cases h : Dead blw (Or2 a b) k
  · rw [if_pos h]; simp [h]
  · rw [if_neg h, comb_some, ← look_has, ← look_has]; simp [h, Or2]
theorem top_above {Q : κ → Prop} (hp : PoK blw Q) (l : List κ) (hQ : ∀ k ∈ l, Q k) : ∀ k ∈ l, ∃ t ∈ l, (t = k ∨ blw k t) ∧ ∀ o ∈ l, ¬ blw t o := by
  classical
  suffices h : ∀ n k, k ∈ l → (l.filter fun o => decide (blw k o)).length ≤ n → ∃ t ∈ l, (t = k ∨ blw k t) ∧ ∀ o ∈ l, ¬ blw t o from fun k hk => h _ k hk (Nat.le_refl _)
  intro n
  induction n with
  | zero =>
    intro k hk hn
    refine ⟨k, hk, .inl rfl, fun o ho hb => ?_⟩
    have : o ∈ l.filter fun o => decide (blw k o) := List.mem_filter.2 ⟨ho, by simpa using hb⟩
    have := List.length_pos_of_mem this
    omega
  | succ n ih =>
    intro k hk hn
    by_cases he : ∃ o ∈ l, blw k o
    · obtain ⟨o, ho, hb⟩ := he
      have hlt : (l.filter fun x => decide (blw o x)).length < (l.filter fun x => decide (blw k x)).length := by
        have hsub : ((l.filter fun x => decide (blw k x)).filter fun x => decide (blw o x)) = l.filter fun x => decide (blw o x) := by
          rw [List.filter_filter]
          refine List.filter_congr fun x hx => ?_
          by_cases h : blw o x
          · simp [h, hp.tr _ _ _ (hQ k hk) (hQ o ho) (hQ x hx) hb h]
          · simp [h]
        rw [← hsub]
        have hle := List.length_filter_le (fun x => decide (blw o x)) (l.filter fun x => decide (blw k x))
        rcases Nat.lt_or_ge ((l.filter fun x => decide (blw k x)).filter fun x => decide (blw o x)).length (l.filter fun x => decide (blw k x)).length with h | h
        · exact h
        · exfalso
          have heq : ((l.filter fun x => decide (blw k x)).filter fun x => decide (blw o x)) = l.filter fun x => decide (blw k x) := List.filter_eq_self.2 (List.length_filter_eq_length_iff.1 (Nat.le_antisymm hle h))
          have hm : o ∈ l.filter fun x => decide (blw k x) := List.mem_filter.2 ⟨ho, by simpa using hb⟩
          rw [← heq] at hm
          have := (List.mem_filter.1 hm).2
          exact hp.irr o (hQ o ho) (by simpa using this)
      obtain ⟨t, ht, h1, h2⟩ := ih o ho (by omega)
      refine ⟨t, ht, .inr ?_, h2⟩
      rcases h1 with rfl | h1
      · exact hb
      · exact hp.tr _ _ _ (hQ k hk) (hQ o ho) (hQ t ht) hb h1
    · exact ⟨k, hk, .inl rfl, fun o ho hb => he ⟨o, ho, hb⟩⟩
theorem top_dead {Q : κ → Prop} (hp : PoK blw Q) (ho : OrdK cmp) {f : Val → Val → Val} {a b c : List (κ × Val)} (ha : SrtK cmp a) (hb : SrtK cmp b) (qa : AllK Q a) (qb : AllK Q b) (qc : AllK Q c) {k : κ} (hk : Q k) :
    Dead blw (Or2 (topG cmp blw f a b) c) k ↔ Dead blw (fun k => Or2 a b k ∨ HasK c k) k := by
  constructor
  · rintro ⟨o, h | h, hb2⟩
    · exact ⟨o, .inl ((top_has ho ha hb o).1 h).2, hb2⟩
    · exact ⟨o, .inr h, hb2⟩
  · rintro ⟨o, h | h, hb2⟩
    · have hl : o ∈ (a ++ b).map (·.1) := by
        rw [List.mem_map]
        rcases h with ⟨e, he, e2⟩ | ⟨e, he, e2⟩
        · exact ⟨e, List.mem_append_left _ he, e2⟩
        · exact ⟨e, List.mem_append_right _ he, e2⟩
      have hQ : ∀ k ∈ (a ++ b).map (·.1), Q k := by
        intro k hk
        obtain ⟨e, he, rfl⟩ := List.mem_map.1 hk
        rcases List.mem_append.1 he with he | he
        · exact qa e he
        · exact qb e he
      have hmem : ∀ t, t ∈ (a ++ b).map (·.1) ↔ Or2 a b t := by
        intro t
        rw [List.mem_map]
        constructor
        · rintro ⟨e, he, e2⟩
          rcases List.mem_append.1 he with he | he
          · exact .inl ⟨e, he, e2⟩
          · exact .inr ⟨e, he, e2⟩
        · rintro (⟨e, he, e2⟩ | ⟨e, he, e2⟩)
          · exact ⟨e, List.mem_append_left _ he, e2⟩
          · exact ⟨e, List.mem_append_right _ he, e2⟩
      obtain ⟨t, ht, h1, h2⟩ := top_above hp _ hQ o hl
      refine ⟨t, .inl ((top_has ho ha hb t).2 ⟨fun ⟨d, hd, hbd⟩ => h2 d ((hmem d).2 hd) hbd, (hmem t).1 ht⟩), ?_⟩
      rcases h1 with rfl | h1
      · exact hb2
      · exact hp.tr _ _ _ hk (hQ o hl) (hQ t ht) hb2 h1
    · exact ⟨o, .inr h, hb2⟩
theorem top_allV {P : Val → Prop} {f : Val → Val → Val} (hf : SemiL P f) (ho : OrdK cmp) {a b : List (κ × Val)} (ha : SrtK cmp a) (hb : SrtK cmp b) (pa : AllV P a) (pb : AllV P b) : AllV P (topG cmp blw f a b) := fun e he => merge_allV hf ho ha hb pa pb e (List.mem_filter.1 he).1
theorem top_allK {Q : κ → Prop} (ho : OrdK cmp) {f : Val → Val → Val} {a b : List (κ × Val)} (qa : AllK Q a) (qb : AllK Q b) : AllK Q (topG cmp blw f a b) := fun e he => by
  rcases (merge_has (f := f) ho a b e.1).1 ⟨e, (List.mem_filter.1 he).1, rfl⟩ with ⟨x, hx, e2⟩ | ⟨x, hx, e2⟩
  · rw [← e2]; exact qa x hx
  · rw [← e2]; exact qb x hx
def AntiK (blw : κ → κ → Prop) (l : List (κ × Val)) : Prop := ∀ x ∈ l, ∀ y ∈ l, ¬ blw x.1 y.1
theorem top_anti (ho : OrdK cmp) {f : Val → Val → Val} (a b : List (κ × Val)) : AntiK blw (topG cmp blw f a b) := fun x hx y hy h => by
  have := (List.mem_filter.1 hx).2
  simp only [decide_eq_true_eq] at this
  exact this ⟨y.1, ⟨y, (List.mem_filter.1 hy).1, rfl⟩, h⟩
theorem topG_comm {P : Val → Prop} {f : Val → Val → Val} (hf : SemiL P f) (ho : OrdK cmp) {a b : List (κ × Val)} (ha : SrtK cmp a) (hb : SrtK cmp b) (pa : AllV P a) (pb : AllV P b) : topG cmp blw f a b = topG cmp blw f b a := by
  unfold topG
  rw [mergeG_comm hf ho ha hb pa pb]
theorem topG_assoc {P : Val → Prop} {Q : κ → Prop} {f : Val → Val → Val} (hf : SemiL P f) (hp : PoK blw Q) (ho : OrdK cmp) {a b c : List (κ × Val)} (ha : SrtK cmp a) (hb : SrtK cmp b) (hc : SrtK cmp c) (pa : AllV P a) (pb : AllV P b) (pc : AllV P c) (qa : AllK Q a) (qb : AllK Q b) (qc : AllK Q c) : topG cmp blw f (topG cmp blw f a b) c = topG cmp blw f a (topG cmp blw f b c) := by
  classical
  have hab := top_srt (blw := blw) (f := f) ho ha hb
  have hbc := top_srt (blw := blw) (f := f) ho hb hc
  have pbc := top_allV (blw := blw) hf ho hb hc pb pc
  rw [topG_comm hf ho ha hbc pa pbc]
  refine look_ext ho (top_srt ho hab hc) (top_srt ho hbc ha) fun k => ?_
  rw [look_top ho hab hc, look_top ho hbc ha]
  by_cases hk : HasK a k ∨ HasK b k ∨ HasK c k
  · have hQ : Q k := by
      rcases hk with ⟨e, he, rfl⟩ | ⟨e, he, rfl⟩ | ⟨e, he, rfl⟩
      · exact qa e he
      · exact qb e he
      · exact qc e he
    have h1 := top_dead (f := f) hp ho ha hb qa qb qc hQ
    have h2 := top_dead (f := f) hp ho hb hc qb qc qa hQ
    have h3 : Dead blw (fun k => Or2 a b k ∨ HasK c k) k ↔ Dead blw (fun k => Or2 b c k ∨ HasK a k) k := by
      unfold Dead Or2
      constructor
      · rintro ⟨o, ((h | h) | h), hb⟩
        · exact ⟨o, .inr h, hb⟩
        · exact ⟨o, .inl (.inl h), hb⟩
        · exact ⟨o, .inl (.inr h), hb⟩
      · rintro ⟨o, ((h | h) | h), hb⟩
        · exact ⟨o, .inl (.inr h), hb⟩
        · exact ⟨o, .inr h, hb⟩
        · exact ⟨o, .inl (.inl h), hb⟩
    by_cases hd : Dead blw (fun k => Or2 a b k ∨ HasK c k) k
    · rw [if_pos (h1.2 hd), if_pos (h2.2 (h3.1 hd))]
    · rw [if_neg (fun h => hd (h1.1 h)), if_neg (fun h => hd (h3.2 (h2.1 h))), look_top ho ha hb, look_top ho hb hc]
      rw [if_neg (fun ⟨o, h, hb⟩ => hd ⟨o, .inl h, hb⟩), if_neg (fun ⟨o, h, hb⟩ => hd (h3.2 ⟨o, .inl h, hb⟩))]
      rw [comb_assoc hf (fun v => look_allV pa) (fun v => look_allV pb) (fun v => look_allV pc)]
      exact comb_comm hf (fun v => look_allV pa) (comb_P hf (fun v => look_allV pb) (fun v => look_allV pc))
  · have hna : ¬ HasK a k := fun h => hk (.inl h)
    have hnb : ¬ HasK b k := fun h => hk (.inr (.inl h))
    have hnc : ¬ HasK c k := fun h => hk (.inr (.inr h))
    have e1 : look (topG cmp blw f a b) k = none := look_none fun h => by
      rcases ((top_has ho ha hb k).1 h).2 with h | h
      · exact hna h
      · exact hnb h
    have e2 : look (topG cmp blw f b c) k = none := look_none fun h => by
      rcases ((top_has ho hb hc k).1 h).2 with h | h
      · exact hnb h
      · exact hnc h
    rw [e1, e2, look_none hnc, look_none hna]
    simp [comb]
theorem filter_true {α : Type} {l : List α} {p : α → Bool} (h : ∀ x ∈ l, p x = true) : l.filter p = l := List.filter_eq_self.2 h
theorem topG_idem {P : Val → Prop} {f : Val → Val → Val} (hf : SemiL P f) (ho : OrdK cmp) {a : List (κ × Val)} (ha : SrtK cmp a) (pa : AllV P a) (hn : AntiK blw a) : topG cmp blw f a a = a := by
  unfold topG
  rw [mergeG_idem hf ho ha pa]
  exact filter_true fun x hx => by
    simp only [decide_eq_true_eq]
    rintro ⟨o, ⟨y, hy, rfl⟩, hb⟩
    exact hn x hx y hy hb
theorem topG_nil {f : Val → Val → Val} {a : List (κ × Val)} (hn : AntiK blw a) : topG cmp blw f a [] = a := by
  unfold topG
  rw [mergeG_nil]
  exact filter_true fun x hx => by
    simp only [decide_eq_true_eq]
    rintro ⟨o, ⟨y, hy, rfl⟩, hb⟩
    exact hn x hx y hy hb
end
theorem cmpX_lt {a b : Bs} : cmpX a b < 0 ↔ ltB a b := by
  rw [cmpX_eq, ltB]
  split
  · rename_i h; simp [h]
  · rename_i h
    split <;> simp [h]
theorem ordX : OrdK cmpX where
  irr a h := ltB_irrefl a (cmpX_lt.1 h)
  tr a b c h1 h2 := cmpX_lt.2 (ltB_trans (cmpX_lt.1 h1) (cmpX_lt.1 h2))
  tot a b h1 h2 := by
    rcases ltB_total a b with h | h | h
    · exact absurd (cmpX_lt.2 h) h1
    · exact h
    · exact absurd (cmpX_lt.2 h) h2
theorem tick_swap (x y : Tk) : tickC x y < 0 ∨ x = y ∨ tickC y x < 0 := by
  by_cases h : x = y
  · exact .inr (.inl h)
  · rw [tick_neg, tick_neg]
    have : ¬ (x.1 = y.1 ∧ x.2 = y.2) := fun e => h (Prod.ext e.1 e.2)
    omega
theorem ticks_self : ∀ a : List Tk, byTicksF a a = 0
  | [] => rfl
  | x :: a => by rw [byTicksF, if_neg (by simp [tick_zero]), ticks_self a]
theorem ticks_tot : ∀ a b : List Tk, byTicksF a b < 0 ∨ a = b ∨ byTicksF b a < 0
  | [], [] => .inr (.inl rfl)
  | [], _ :: _ => .inl (by simp [byTicksF])
  | _ :: _, [] => .inr (.inr (by simp [byTicksF]))
  | x :: a, y :: b => by
    rw [byTicksF, byTicksF]
    rcases tick_swap x y with h | h | h
    · rw [if_pos (by omega)]; exact .inl h
    · subst h
      rw [if_neg (by simp [tick_zero]), if_neg (by simp [tick_zero])]
      rcases ticks_tot a b with h | h | h
      · exact .inl h
      · exact .inr (.inl (by rw [h]))
      · exact .inr (.inr h)
    · rw [if_pos (show tickC y x ≠ 0 by omega)]; exact .inr (.inr h)
theorem ordT : OrdK byTicksF where
  irr a h := by rw [ticks_self] at h; omega
  tr a b c h1 h2 := ticks_trans h1 h2
  tot a b h1 h2 := by
    rcases ticks_tot a b with h | h | h
    · exact absurd h h1
    · exact h
    · exact absurd h h2
end Go.Proofs.YtlooahbfpmigfaaGreat
end
section
set_option linter.unusedVariables false
set_option linter.unusedSimpArgs false
set_option maxRecDepth 20000
set_option maxHeartbeats 400000
namespace Go.Proofs.YtlooahbfpmigfaaGreat
open Go Go.MV
theorem large_eq (n m : Int) (s : List Bs) (c : List (List Tk)) (w : List Val) : largeF (.mk n m s c w) = (decide (40 < max (max s.length c.length) w.length) || (decide (c.length = 1) && decide (40 < (c.headD []).length))) := by
 unfold largeF
 congr 1
 rcases c with _ | ⟨x, _ | ⟨y, c⟩⟩ <;> simp [Val.cv]
theorem or_three (a b c : Int) : orF [a, b, c] = if a ≠ 0 then a else if b ≠ 0 then b else c := by
 rw [or_cons, or_cons, or_cons]
 by_cases ha : a = 0 <;> by_cases hb : b = 0 <;> by_cases hc : c = 0 <;> simp [ha, hb, hc, orF]
theorem jTicks1_spec (x y : Tk) (S : MS) : MCalls Tryz.prog 161 [encT x, encT y] S fun v σ' => v = .int .i64 (tickC x y) ∧ σ' = S := by
 refine mcalls_body Tryz.func161 rfl Tryz.ntmps161 (Nat.le_of_ble_eq_true rfl) ?_
 refine mwp_seq <| qR rfl <| qB rfl rfl rfl rfl rfl <| qB rfl rfl rfl rfl rfl <| qA rfl rfl rfl <| qN <| mwp_seq ?_
 refine mwp_draw [] [_] mo (by decide) rfl rfl rfl rfl ?_
 refine dO rfl rfl rfl (op_fieldAddr_ref rfl rfl fo72_0 ⟨rfl, rfl⟩) <| dO rfl rfl rfl (op_load' rfl rfl rfl ta3 rfl ⟨rfl, rfl⟩) <| dO rfl rfl rfl (op_fieldAddr_ref rfl rfl fo72_0 ⟨rfl, rfl⟩) <| dO rfl rfl rfl (op_load' rfl rfl rfl ta3 rfl ⟨rfl, rfl⟩) <| dOps_op rfl rfl (.cons (op_call rfl rfl rfl co162 (compare_spec x.1 y.1 _)) .nil) <| dO rfl rfl rfl (op_fieldAddr_ref rfl rfl fo72_1 ⟨rfl, rfl⟩) <| dO rfl rfl rfl (op_load' rfl rfl rfl ta24 rfl ⟨rfl, rfl⟩) <| dO rfl rfl rfl (op_fieldAddr_ref rfl rfl fo72_1 ⟨rfl, rfl⟩) <| dO rfl rfl rfl (op_load' rfl rfl rfl ta24 rfl ⟨rfl, rfl⟩) <| dOps_op rfl rfl (.cons (op_call rfl rfl rfl co135 (compareu_spec x.2 y.2 _)) .nil) <| dO rfl rfl rfl (op_buildSlice rfl Tryz.underlying169 el3 rfl rfl (by decide) (by decide) rfl rfl ⟨rfl, rfl⟩) ?_
 refine dOps_op rfl rfl (.cons (op_call rfl rfl rfl co134 (cmpOr_spec [cmpI x.1 y.1, cmpI x.2 y.2] _)) .nil) <| dO rfl rfl rfl (op_assign rfl rfl ⟨rfl, rfl⟩) <| dOps_nil <| mwp_ret ?_
 exact ret_tmp (.inr rfl) Tryz.results161 rfl (.of_eq (by rw [or_two]; rfl)) (.int _ _) ⟨rfl, rfl⟩
theorem jCmpFunc_spec (a b : List Tk) (S : MS) : MCalls Tryz.prog 160 [.lst none 2 (a.map encT), .lst none 2 (b.map encT), .fn (.func 161) [] []] S fun v σ' => v = .int .i64 (byTicksF a b) ∧ σ' = S := by
 refine mcalls_body Tryz.func160 rfl Tryz.ntmps160 (Nat.le_of_ble_eq_true rfl) ?_
 refine mwp_len (t := 0) rfl fun hlen => ?_
 rw [List.length_map] at hlen
 refine mwp_seq <| qR rfl <| qA rfl rfl rfl <| qN <| mwp_seq <| mwp_seq <| qR rfl <| qM rfl rfl rfl <| qE rfl rfl Tryz.underlying44 rfl <| qM rfl rfl rfl <| qN <| mwp_block ?_
 refine mwp_loopKJ (α := Nat) [(0, _), (1, _), (2, _), (11, _), (12, _)] (fun i => [(13, .int .i64 (i : Int))]) (fun i => []) (fun i => i ≤ a.length ∧ i ≤ b.length ∧ byTicksF (a.drop i) (b.drop i) = byTicksF a b) (fun i => a.length - i) (0) (Nat.le_refl _) (.keep rfl (.keep rfl (.keep rfl (.keep rfl (.keep rfl (.nil)))))) (.keep rfl (.nil)) (⟨by omega, by omega, rfl⟩) (rfl) ?_
 rintro i ⟨hi, hib, he⟩
 refine mwp_seq <| qR rfl <| qC rfl rfl rfl rfl rfl <| qN <| mwp_seq ?_
 refine mwp_cond_split rfl (fun h14 => ?_) (fun h14 => ?_)
 ·
  have hlt : i < a.length := by simpa using h14
  obtain ⟨x, hs⟩ : ∃ q_, a[i]? = some q_ := ⟨_, List.getElem?_eq_getElem hlt⟩
  refine mwp_skip <| mwp_seq <| mwp_block <| mwp_seq <| qR rfl <| qM rfl rfl rfl <| qO rfl <| op_indexAddr rfl Tryz.underlying44 sz72 (by decide) rfl rfl rfl (get_map hs) ?_
  refine qO rfl <| op_load_sptr rfl rfl ta72 rfl <| qO rfl <| op_alloc' rfl zm72 rfl rfl <| qA rfl rfl rfl <| qO rfl <| op_store' rfl rfl rfl rfl sz72 rfl rfl (Nat.le_of_ble_eq_true rfl) rfl <| qN <| mwp_seq <| mwp_seq <| qR rfl <| qM rfl rfl rfl <| qM rfl rfl rfl <| qE rfl rfl Tryz.underlying44 rfl <| qC rfl rfl rfl rfl rfl <| qN ?_
  refine mwp_cond_split rfl (fun h21 => ?_) (fun h21 => ?_)
  ·
   have hbe : b.drop i = [] := by rw [List.length_map] at h21; simp at h21; exact List.drop_eq_nil_of_le (by omega)
   refine mwp_seq <| qR rfl <| qA rfl rfl rfl <| qN <| mwp_ret ?_
   exact ret_tmp (.inr rfl) Tryz.results160 rfl (.of_eq (by rw [← he, hbe, drop_at hs]; rfl)) (.int _ _) ⟨rfl, rfl⟩
  ·
   have hltb : i < b.length := by rw [List.length_map] at h21; simp at h21; omega
   obtain ⟨y, hs2⟩ : ∃ s, b[i]? = some s := ⟨_, List.getElem?_eq_getElem hltb⟩
   refine mwp_skip <| mwp_seq <| qR rfl <| qM rfl rfl rfl <| qM rfl rfl rfl <| qO rfl <| op_indexAddr rfl Tryz.underlying44 sz72 (by decide) rfl rfl rfl (get_map hs2) ?_
   refine qO rfl <| op_load_sptr rfl rfl ta72 rfl <| qO rfl <| op_alloc' rfl zm72 rfl rfl <| qO rfl <| op_store' rfl rfl rfl rfl sz72 rfl rfl (Nat.le_of_ble_eq_true rfl) rfl <| qN <| mwp_seq <| qR rfl <| qM rfl rfl rfl <| qL rfl rfl rfl rfl ta72 rfl <| qL rfl rfl rfl rfl ta72 rfl ?_
   refine wOps_op rfl (op_call rfl rfl rfl co161 ((jTicks1_spec x y _).mono ?_))
   rintro _ _ ⟨rfl, rfl⟩
   refine qA rfl rfl rfl <| qN <| mwp_seq <| qR rfl <| qM rfl rfl rfl <| qC rfl rfl rfl rfl rfl <| qN ?_
   refine mwp_cond_split rfl (fun h31 => ?_) (fun h31 => ?_)
   ·
    refine mwp_seq <| qR rfl <| qM rfl rfl rfl <| qA rfl rfl rfl <| qN <| mwp_ret ?_
    exact ret_tmp (.inr rfl) Tryz.results160 rfl (.of_eq (by rw [← he, ticks_at hs hs2, if_pos (by simpa using h31)])) (.int _ _) ⟨rfl, rfl⟩
   ·
    refine mwp_skip <| qR rfl <| qO rfl <| op_arith rfl rfl rfl rfl <| qM rfl rfl rfl <| qN ?_
    refine ⟨i + 1, _, by omega, ⟨by omega, by omega, by rw [← he, ticks_at hs hs2, if_neg (by simpa using h31)]⟩, rfl, .nil, (.old rfl rfl (.old rfl rfl (.old rfl rfl (.old rfl rfl (.old rfl rfl (.nil)))))), (.new' rfl (int_succ hlt hlen) (.int _ _) (.nil))⟩
 ·
  have hge : i = a.length := by simp at h14; omega
  refine mwp_exit <| mwp_seq <| mwp_seq <| qR rfl <| qM rfl rfl rfl <| qE rfl rfl Tryz.underlying44 rfl <| qM rfl rfl rfl <| qE rfl rfl Tryz.underlying44 rfl <| qC rfl rfl rfl rfl rfl <| qN ?_
  refine mwp_cond_split rfl (fun h38 => ?_) (fun h38 => ?_)
  ·
   refine mwp_seq <| qR rfl <| qA rfl rfl rfl <| qN <| mwp_ret ?_
   exact ret_tmp (.inr rfl) Tryz.results160 rfl (.of_eq (by simp at h38; rw [← he, hge, List.drop_length, drop_at (List.getElem?_eq_getElem (by omega : a.length < b.length))]; rfl)) (.int _ _) ⟨rfl, rfl⟩
  ·
   refine mwp_skip <| mwp_seq <| qR rfl <| qA rfl rfl rfl <| qN <| mwp_ret ?_
   exact ret_tmp (.inr rfl) Tryz.results160 rfl (.of_eq (by simp at h38; rw [← he, hge, List.drop_length, List.drop_eq_nil_of_le (by omega : b.length ≤ a.length)]; rfl)) (.int _ _) ⟨rfl, rfl⟩
theorem jTicks_spec (a b : List Tk) (S : MS) : MCalls Tryz.prog 140 [.lst none 2 (a.map encT), .lst none 2 (b.map encT)] S fun v σ' => v = .int .i64 (byTicksF a b) ∧ σ' = S := by
 refine mcalls_body Tryz.func140 rfl Tryz.ntmps140 (Nat.le_of_ble_eq_true rfl) ?_
 refine mwp_seq <| qR rfl <| qA rfl rfl rfl <| qN <| mwp_seq <| qR rfl <| qM rfl rfl rfl <| qM rfl rfl rfl ?_
 refine wOps_op rfl (op_call rfl rfl rfl co160 ((jCmpFunc_spec a b _).mono ?_))
 rintro _ _ ⟨rfl, rfl⟩
 refine qA rfl rfl rfl <| qN <| mwp_ret ?_
 exact ret_tmp (.inr rfl) Tryz.results140 rfl (.of_eq (rfl)) (.int _ _) ⟨rfl, rfl⟩
theorem cmpString_spec (a b : Bs) (S : MS) : MCalls Tryz.prog 153 [encX a, encX b] S fun v σ' => v = .int .i64 (cmpX a b) ∧ σ' = S := by
 refine mcalls_body Tryz.func153 rfl Tryz.ntmps153 (Nat.le_of_ble_eq_true rfl) ?_
 refine mwp_seq <| qR rfl <| qA rfl rfl rfl <| qN <| mwp_seq <| qR rfl <| qM rfl rfl rfl <| qM rfl rfl rfl <| qO rfl <| op_ext rfl rfl rfl (fun g w vs h => run_cmpstr Tryz.func168 (by kernel_rfl) (by kernel_rfl) (by kernel_rfl) (by kernel_rfl) a b g w vs h) rfl ?_
 refine qA rfl rfl rfl <| qN <| mwp_ret ?_
 exact ret_tmp (.inr rfl) Tryz.results153 rfl (.of_eq (rfl)) (.int _ _) ⟨rfl, rfl⟩
theorem strCmp_spec (a b : Bs) (S : MS) : MCalls Tryz.prog 132 [encX a, encX b] S fun v σ' => v = .int .i64 (cmpX a b) ∧ σ' = S := by
 refine mcalls_body Tryz.func132 rfl Tryz.ntmps132 (Nat.le_of_ble_eq_true rfl) ?_
 refine mwp_seq <| qR rfl <| qA rfl rfl rfl <| qN <| mwp_seq <| qR rfl <| qM rfl rfl rfl <| qM rfl rfl rfl ?_
 refine wOps_op rfl (op_call rfl rfl rfl ⟨_, _, Tryz.func153, by kernel_rfl, rfl⟩ ((cmpString_spec a b _).mono ?_))
 rintro _ _ ⟨rfl, rfl⟩
 refine qA rfl rfl rfl <| qN <| mwp_ret ?_
 exact ret_tmp (.inr rfl) Tryz.results132 rfl (.of_eq (rfl)) (.int _ _) ⟨rfl, rfl⟩
theorem cof_none (k : List Tk) (k1 : Int) (i1 : List Sch) (n m : Int) (s : List Bs) (c : List (List Tk)) (w : List Val) (S : MS) : MCalls Tryz.prog 144 [encS (.mk k1 i1), encE encC (k, .mk n m s c w, none)] S fun v σ' => v = encO (some (.mk n m s c w)) ∧ σ' = S := by
 refine mcalls_body Tryz.func144 rfl Tryz.ntmps144 (Nat.le_of_ble_eq_true rfl) ?_
 refine mwp_seq <| qR rfl <| qB rfl rfl rfl rfl rfl <| qB rfl rfl rfl rfl rfl <| qO rfl <| op_alloc' rfl zm29 rfl rfl <| qA rfl rfl rfl <| qN <| mwp_seq <| mwp_seq <| qR rfl <| qF rfl rfl rfl fo154_2 <| qL rfl rfl rfl rfl ta145 rfl <| qO rfl <| op_ptr0 rfl Tryz.underlying145 rfl rfl (.inl ⟨rfl, rfl⟩) <| qN <| mwp_cond_t rfl (rfl) <| mwp_seq <| qR rfl <| qF rfl rfl rfl fo154_1 <| qL rfl rfl rfl rfl ta145 rfl <| qO rfl <| op_nilCheck rfl rfl rfl ?_
 refine qO rfl <| op_load_sptr rfl rfl ta29 rfl <| qO rfl <| op_store' rfl rfl rfl rfl sz29 rfl rfl (Nat.le_of_ble_eq_true rfl) rfl <| qA rfl rfl rfl <| qN <| mwp_ret ?_
 exact ret_cell_tmp (.inr rfl) Tryz.results144 rfl rfl ta29 rfl (.refl _) (cl_encV _ (.mk n m s c w)) rfl (.refl _) .iface0 ⟨rfl, rfl⟩
theorem cof_some (k : List Tk) (k1 : Int) (i1 : List Sch) (n m : Int) (s : List Bs) (c : List (List Tk)) (w : List Val) (n2 m2 : Int) (s2 : List Bs) (c2 : List (List Tk)) (w2 : List Val) (o : Option Val) (hb : ∀ S : MS, MCalls Tryz.prog 68 [encS (.mk k1 i1), encV (.mk n m s c w), encV (.mk n2 m2 s2 c2 w2)] S fun v σ' => v = encO o ∧ σ' = S) (S : MS) : MCalls Tryz.prog 144 [encS (.mk k1 i1), encE encC (k, .mk n m s c w, some (.mk n2 m2 s2 c2 w2))] S fun v σ' => v = encO o ∧ σ' = S := by
 obtain ⟨n3, m3, s3, c3, w3, h3⟩ := encO_of o
 have hO : encO o = .tup [encV (.mk n3 m3 s3 c3 w3), errO o] := by rw [encO, h3]
 rw [hO] at hb
 refine mcalls_body Tryz.func144 rfl Tryz.ntmps144 (Nat.le_of_ble_eq_true rfl) ?_
 refine mwp_seq <| qR rfl <| qB rfl rfl rfl rfl rfl <| qB rfl rfl rfl rfl rfl <| qO rfl <| op_alloc' rfl zm29 rfl rfl <| qA rfl rfl rfl <| qN <| mwp_seq <| mwp_seq <| qR rfl <| qF rfl rfl rfl fo154_2 <| qL rfl rfl rfl rfl ta145 rfl <| qO rfl <| op_ptrnil rfl Tryz.underlying145 rfl rfl rfl (.inl ⟨rfl, rfl⟩) <| qN <| mwp_cond_f rfl (rfl) <| mwp_skip <| mwp_seq ?_
 refine mwp_draw [12] [_, S ++ [.cells (encS (.mk k1 i1)).cells, .cells (encE encC (k, .mk n m s c w, some (.mk n2 m2 s2 c2 w2))).cells, .cells (encV (.mk n3 m3 s3 c3 w3)).cells]] mo (by decide) rfl rfl rfl rfl ?_
 refine dO rfl rfl rfl (op_load' rfl rfl rfl ta37 rfl ⟨rfl, rfl⟩) <| dO rfl rfl rfl (op_fieldAddr_ref rfl rfl fo154_1 ⟨rfl, rfl⟩) <| dO rfl rfl rfl (op_load' rfl rfl rfl ta145 rfl ⟨rfl, rfl⟩) <| dO rfl rfl rfl (op_nilCheck rfl rfl rfl ⟨rfl, rfl⟩) <| dO rfl rfl rfl (op_load_sptr rfl rfl ta29 rfl ⟨rfl, rfl⟩) <| dO rfl rfl rfl (op_fieldAddr_ref rfl rfl fo154_2 ⟨rfl, rfl⟩) <| dO rfl rfl rfl (op_load' rfl rfl rfl ta145 rfl ⟨rfl, rfl⟩) <| dO rfl rfl rfl (op_nilCheck rfl rfl rfl ⟨rfl, rfl⟩) <| dO rfl rfl rfl (op_load_sptr rfl rfl ta29 rfl ⟨rfl, rfl⟩) <| dOps_op rfl rfl (.cons (op_call rfl rfl rfl co68 (hb _)) .nil) <| dO rfl rfl rfl (op_extract rfl rfl rfl ⟨rfl, rfl⟩) <| dO rfl rfl rfl (op_extract rfl rfl rfl ⟨rfl, rfl⟩) <| dOps_eff rfl rfl rfl rfl (op_store' rfl rfl rfl rfl sz29 rfl rfl (Nat.le_of_ble_eq_true rfl) rfl ⟨rfl, rfl⟩) <| dO rfl rfl rfl (op_assign rfl rfl ⟨rfl, rfl⟩) <| dOps_nil <| mwp_ret ?_
 exact ret_cell_tmp (.inr rfl) Tryz.results144 rfl rfl ta29 rfl (.refl _) (cl_encV _ (.mk n3 m3 s3 c3 w3)) rfl (.refl _) (cl_errO _ _) ⟨hO.symm, rfl⟩
theorem cof_spec (k1 : Int) (i1 : List Sch) (f : Val → Val → Option Val) (e : Ent (List Tk)) (hb : ∀ y, e.2.2 = some y → ∀ S : MS, MCalls Tryz.prog 68 [encS (.mk k1 i1), encV e.2.1, encV y] S fun v σ' => v = encO (f e.2.1 y) ∧ σ' = S) (S : MS) : MCalls Tryz.prog 144 [encS (.mk k1 i1), encE encC e] S fun v σ' => v = encO (ofE f e) ∧ σ' = S := by
 obtain ⟨k, ⟨n, m, s, c, w⟩, o⟩ := e
 cases o with
 | none => exact cof_none k k1 i1 n m s c w S
 | some y =>
  obtain ⟨n2, m2, s2, c2, w2⟩ := y
  exact cof_some k k1 i1 n m s c w n2 m2 s2 c2 w2 _ (hb _ rfl) S
theorem xof_none (k : Bs) (k1 : Int) (i1 : List Sch) (n m : Int) (s : List Bs) (c : List (List Tk)) (w : List Val) (S : MS) : MCalls Tryz.prog 133 [encS (.mk k1 i1), encE encX (k, .mk n m s c w, none)] S fun v σ' => v = encO (some (.mk n m s c w)) ∧ σ' = S := by
 refine mcalls_body Tryz.func133 rfl Tryz.ntmps133 (Nat.le_of_ble_eq_true rfl) ?_
 refine mwp_seq <| qR rfl <| qB rfl rfl rfl rfl rfl <| qB rfl rfl rfl rfl rfl <| qO rfl <| op_alloc' rfl zm29 rfl rfl <| qA rfl rfl rfl <| qN <| mwp_seq <| mwp_seq <| qR rfl <| qF rfl rfl rfl fo147_2 <| qL rfl rfl rfl rfl ta145 rfl <| qO rfl <| op_ptr0 rfl Tryz.underlying145 rfl rfl (.inl ⟨rfl, rfl⟩) <| qN <| mwp_cond_t rfl (rfl) <| mwp_seq <| qR rfl <| qF rfl rfl rfl fo147_1 <| qL rfl rfl rfl rfl ta145 rfl <| qO rfl <| op_nilCheck rfl rfl rfl ?_
 refine qO rfl <| op_load_sptr rfl rfl ta29 rfl <| qO rfl <| op_store' rfl rfl rfl rfl sz29 rfl rfl (Nat.le_of_ble_eq_true rfl) rfl <| qA rfl rfl rfl <| qN <| mwp_ret ?_
 exact ret_cell_tmp (.inr rfl) Tryz.results133 rfl rfl ta29 rfl (.refl _) (cl_encV _ (.mk n m s c w)) rfl (.refl _) .iface0 ⟨rfl, rfl⟩
theorem xof_some (k : Bs) (k1 : Int) (i1 : List Sch) (n m : Int) (s : List Bs) (c : List (List Tk)) (w : List Val) (n2 m2 : Int) (s2 : List Bs) (c2 : List (List Tk)) (w2 : List Val) (o : Option Val) (hb : ∀ S : MS, MCalls Tryz.prog 68 [encS (.mk k1 i1), encV (.mk n m s c w), encV (.mk n2 m2 s2 c2 w2)] S fun v σ' => v = encO o ∧ σ' = S) (S : MS) : MCalls Tryz.prog 133 [encS (.mk k1 i1), encE encX (k, .mk n m s c w, some (.mk n2 m2 s2 c2 w2))] S fun v σ' => v = encO o ∧ σ' = S := by
 obtain ⟨n3, m3, s3, c3, w3, h3⟩ := encO_of o
 have hO : encO o = .tup [encV (.mk n3 m3 s3 c3 w3), errO o] := by rw [encO, h3]
 rw [hO] at hb
 refine mcalls_body Tryz.func133 rfl Tryz.ntmps133 (Nat.le_of_ble_eq_true rfl) ?_
 refine mwp_seq <| qR rfl <| qB rfl rfl rfl rfl rfl <| qB rfl rfl rfl rfl rfl <| qO rfl <| op_alloc' rfl zm29 rfl rfl <| qA rfl rfl rfl <| qN <| mwp_seq <| mwp_seq <| qR rfl <| qF rfl rfl rfl fo147_2 <| qL rfl rfl rfl rfl ta145 rfl <| qO rfl <| op_ptrnil rfl Tryz.underlying145 rfl rfl rfl (.inl ⟨rfl, rfl⟩) <| qN <| mwp_cond_f rfl (rfl) <| mwp_skip <| mwp_seq ?_
 refine mwp_draw [12] [_, S ++ [.cells (encS (.mk k1 i1)).cells, .cells (encE encX (k, .mk n m s c w, some (.mk n2 m2 s2 c2 w2))).cells, .cells (encV (.mk n3 m3 s3 c3 w3)).cells]] mo (by decide) rfl rfl rfl rfl ?_
 refine dO rfl rfl rfl (op_load' rfl rfl rfl ta37 rfl ⟨rfl, rfl⟩) <| dO rfl rfl rfl (op_fieldAddr_ref rfl rfl fo147_1 ⟨rfl, rfl⟩) <| dO rfl rfl rfl (op_load' rfl rfl rfl ta145 rfl ⟨rfl, rfl⟩) <| dO rfl rfl rfl (op_nilCheck rfl rfl rfl ⟨rfl, rfl⟩) <| dO rfl rfl rfl (op_load_sptr rfl rfl ta29 rfl ⟨rfl, rfl⟩) <| dO rfl rfl rfl (op_fieldAddr_ref rfl rfl fo147_2 ⟨rfl, rfl⟩) <| dO rfl rfl rfl (op_load' rfl rfl rfl ta145 rfl ⟨rfl, rfl⟩) <| dO rfl rfl rfl (op_nilCheck rfl rfl rfl ⟨rfl, rfl⟩) <| dO rfl rfl rfl (op_load_sptr rfl rfl ta29 rfl ⟨rfl, rfl⟩) <| dOps_op rfl rfl (.cons (op_call rfl rfl rfl co68 (hb _)) .nil) <| dO rfl rfl rfl (op_extract rfl rfl rfl ⟨rfl, rfl⟩) <| dO rfl rfl rfl (op_extract rfl rfl rfl ⟨rfl, rfl⟩) <| dOps_eff rfl rfl rfl rfl (op_store' rfl rfl rfl rfl sz29 rfl rfl (Nat.le_of_ble_eq_true rfl) rfl ⟨rfl, rfl⟩) <| dO rfl rfl rfl (op_assign rfl rfl ⟨rfl, rfl⟩) <| dOps_nil <| mwp_ret ?_
 exact ret_cell_tmp (.inr rfl) Tryz.results133 rfl rfl ta29 rfl (.refl _) (cl_encV _ (.mk n3 m3 s3 c3 w3)) rfl (.refl _) (cl_errO _ _) ⟨hO.symm, rfl⟩
theorem xof_spec (k1 : Int) (i1 : List Sch) (f : Val → Val → Option Val) (e : Ent (Bs)) (hb : ∀ y, e.2.2 = some y → ∀ S : MS, MCalls Tryz.prog 68 [encS (.mk k1 i1), encV e.2.1, encV y] S fun v σ' => v = encO (f e.2.1 y) ∧ σ' = S) (S : MS) : MCalls Tryz.prog 133 [encS (.mk k1 i1), encE encX e] S fun v σ' => v = encO (ofE f e) ∧ σ' = S := by
 obtain ⟨k, ⟨n, m, s, c, w⟩, o⟩ := e
 cases o with
 | none => exact xof_none k k1 i1 n m s c w S
 | some y =>
  obtain ⟨n2, m2, s2, c2, w2⟩ := y
  exact xof_some k k1 i1 n m s c w n2 m2 s2 c2 w2 _ (hb _ rfl) S
theorem eIndex_spec (S : MS) (l : List (Ent (List Tk))) (p : Ent (List Tk) → Bool) (kf : FuncId) (first caps : List MV) (hco : CallOk Tryz.prog kf) (hp : ∀ x ∈ l, ∀ X : MS, MCalls Tryz.prog kf (first ++ [encE encC x] ++ caps) (S ++ X) fun v σ' => v = .bool (p x) ∧ σ' = S ++ X) : MCalls Tryz.prog 163 [.lst none 3 (l.map (encE encC)), .fn (.func kf) first caps] S fun v σ' => v = .int .i64 (findGo p 0 l) ∧ σ' = S := by
 refine mcalls_body Tryz.func163 rfl Tryz.ntmps163 (Nat.le_of_ble_eq_true rfl) ?_
 refine mwp_len (t := 0) rfl fun hlen => ?_
 rw [List.length_map] at hlen
 refine mwp_seq <| qR rfl <| qA rfl rfl rfl <| qN <| mwp_seq <| mwp_seq <| qR rfl <| qM rfl rfl rfl <| qE rfl rfl Tryz.underlying151 rfl <| qM rfl rfl rfl <| qN <| mwp_block ?_
 refine mwp_loopK (α := Nat) [(0, _), (1, _), (7, _)] (fun i => [(8, .int .i64 (i : Int))]) (fun i => []) (fun i => i ≤ l.length ∧ findGo p i (l.drop i) = findGo p 0 l) (fun i => l.length - i) (0) (.keep rfl (.keep rfl (.keep rfl (.nil)))) (.keep rfl (.nil)) (⟨by omega, rfl⟩) (rfl) ?_
 rintro i ⟨hi, he⟩
 refine mwp_seq <| qR rfl <| qC rfl rfl rfl rfl rfl <| qN <| mwp_seq ?_
 refine mwp_cond_split rfl (fun h9 => ?_) (fun h9 => ?_)
 ·
  have hlt : i < l.length := by simpa using h9
  obtain ⟨x, hs⟩ : ∃ q_, l[i]? = some q_ := ⟨_, List.getElem?_eq_getElem hlt⟩
  refine mwp_skip <| mwp_seq <| mwp_block <| mwp_seq <| qR rfl <| qM rfl rfl rfl <| qA rfl rfl rfl <| qN <| mwp_seq <| qR rfl <| qM rfl rfl rfl <| qM rfl rfl rfl <| qM rfl rfl rfl <| qO rfl <| op_indexAddr rfl Tryz.underlying151 sz154 (by decide) rfl rfl rfl (get_map hs) ?_
  refine qO rfl <| op_load_sptr rfl rfl ta154 rfl ?_
  refine wOps_op rfl (op_call rfl rfl rfl hco ((hp _ (List.mem_of_getElem? hs) _).mono ?_))
  rintro _ _ ⟨rfl, rfl⟩
  refine qN ?_
  refine mwp_cond_split rfl (fun h16 => ?_) (fun h16 => ?_)
  ·
   refine mwp_seq <| qR rfl <| qM rfl rfl rfl <| qA rfl rfl rfl <| qN <| mwp_ret ?_
   exact ret_tmp (.inr rfl) Tryz.results163 rfl (.of_eq (by rw [← he, find_at hs, h16]; rfl)) (.int _ _) ⟨rfl, rfl⟩
  ·
   refine mwp_skip <| qR rfl <| qO rfl <| op_arith rfl rfl rfl rfl <| qM rfl rfl rfl <| qN ?_
   refine ⟨i + 1, by omega, ⟨by omega, by rw [← he, find_at hs, h16]; rfl⟩, rfl, (.keep rfl (.keep rfl (.keep rfl (.nil)))), (.eq rfl (int_succ hlt hlen) (.nil))⟩
 ·
  have hge : i = l.length := by simp at h9; omega
  refine mwp_exit <| mwp_seq <| qR rfl <| qA rfl rfl rfl <| qN <| mwp_ret ?_
  exact ret_tmp (.inr rfl) Tryz.results163 rfl (.of_eq (by rw [← he, hge, List.drop_length]; rfl)) (.int _ _) ⟨rfl, rfl⟩
theorem eContains_spec (S : MS) (l : List (Ent (List Tk))) (p : Ent (List Tk) → Bool) (kf : FuncId) (first caps : List MV) (hco : CallOk Tryz.prog kf) (hp : ∀ x ∈ l, ∀ X : MS, MCalls Tryz.prog kf (first ++ [encE encC x] ++ caps) (S ++ X) fun v σ' => v = .bool (p x) ∧ σ' = S ++ X) : MCalls Tryz.prog 141 [.lst none 3 (l.map (encE encC)), .fn (.func kf) first caps] S fun v σ' => v = .bool (l.any p) ∧ σ' = S := by
 refine mcalls_body Tryz.func141 rfl Tryz.ntmps141 (Nat.le_of_ble_eq_true rfl) ?_
 refine mwp_seq <| qR rfl <| qA rfl rfl rfl <| qN <| mwp_seq <| qR rfl <| qM rfl rfl rfl <| qM rfl rfl rfl ?_
 refine wOps_op rfl (op_call rfl rfl rfl co163 ((eIndex_spec (S ++ []) l p kf first caps hco (by rw [List.append_nil]; exact hp)).mono ?_))
 rintro _ _ ⟨rfl, rfl⟩
 refine qC rfl rfl rfl rfl rfl <| qA rfl rfl rfl <| qN <| mwp_ret ?_
 exact ret_tmp (.inr rfl) Tryz.results141 rfl (.of_eq (by rw [find_any p 0 l])) (.bool _) ⟨rfl, rfl⟩
theorem causes1_spec (e o : Ent (List Tk)) (h : e.1.length + o.1.length ≤ 1000000) (id : Nat) (S : MS) (hS : S[id]? = some (.cells (encE encC e).cells)) : MCalls Tryz.prog 142 [encE encC o, .ref id 0] S fun v σ' => v = .bool (decide (cmpF e.1 o.1 = -1)) ∧ σ' = S := by
 refine mcalls_body Tryz.func142 rfl Tryz.ntmps142 (Nat.le_of_ble_eq_true rfl) ?_
 refine mwp_seq <| qR rfl <| qB rfl rfl rfl rfl rfl <| qA rfl rfl rfl <| qN <| mwp_seq <| qR rfl <| qF rfl rfl rfl fo154_0 <| qO rfl <| op_load_far rfl rfl hS ta44 rfl <| qF rfl rfl rfl fo154_0 <| qL rfl rfl rfl rfl ta44 rfl ?_
 refine wOps_op rfl (op_call rfl rfl rfl co143 ((clkCmp_spec e.1 o.1 h _).mono ?_))
 rintro _ _ ⟨rfl, rfl⟩
 refine qC rfl rfl rfl rfl rfl <| qA rfl rfl rfl <| qN <| mwp_ret ?_
 exact ret_tmp (.inr rfl) Tryz.results142 rfl (.of_eq (rfl)) (.bool _) ⟨rfl, rfl⟩
theorem isLarge_spec (n m : Int) (s : List Bs) (c : List (List Tk)) (w : List Val) (S : MS) : MCalls Tryz.prog 103 [encV (.mk n m s c w)] S fun v σ' => v = .bool (largeF (.mk n m s c w)) ∧ σ' = S := by
 refine mcalls_body Tryz.func103 rfl Tryz.ntmps103 (Nat.le_of_ble_eq_true rfl) ?_
 refine mwp_seq <| qR rfl <| qB rfl rfl rfl rfl rfl <| qA rfl rfl rfl <| qN <| mwp_seq <| qR rfl <| qF rfl rfl rfl fo29_2 <| qL rfl rfl rfl rfl ta25 rfl <| qE rfl rfl Tryz.underlying25 rfl <| qF rfl rfl rfl fo29_3 <| qL rfl rfl rfl rfl ta26 rfl <| qE rfl rfl Tryz.underlying26 rfl <| qF rfl rfl rfl fo29_4 <| qL rfl rfl rfl rfl ta27 rfl <| qE rfl rfl Tryz.underlying27 rfl ?_
 rw [encVs_length, List.length_map, List.length_map]
 refine qO rfl <| op_max3 rfl rfl rfl rfl rfl <| qC rfl rfl rfl rfl rfl <| qM rfl rfl rfl ?_
 refine wOps_case (fun h14 => ?_) (fun h14 => ?_)
 ·
  refine qS rfl <| qS rfl <| qS rfl <| qS rfl <| qS rfl <| qS rfl <| qS rfl <| qS rfl <| qS rfl <| qS rfl <| qS rfl <| qS rfl <| qP rfl rfl rfl rfl <| qA rfl rfl rfl <| qN <| mwp_ret ?_
  exact ret_tmp (.inr rfl) Tryz.results103 rfl (.of_eq (by rw [large_eq]; congr 1; rw [Bool.eq_iff_iff]; first | (simp_all; done) | (simp_all; omega))) (.bool _) ⟨rfl, rfl⟩
 ·
  refine qF rfl rfl rfl fo29_3 <| qL rfl rfl rfl rfl ta26 rfl <| qE rfl rfl Tryz.underlying26 rfl <| qC rfl rfl rfl rfl rfl <| qM rfl rfl rfl ?_
  refine wOps_case (fun h19 => ?_) (fun h19 => ?_)
  ·
   obtain ⟨c0, rfl⟩ := one_of (by rw [List.length_map] at h19; simp at h19; omega : c.length = 1)
   refine qF rfl rfl rfl fo29_3 <| qL rfl rfl rfl rfl ta26 rfl <| qO rfl <| op_indexAddr rfl Tryz.underlying26 sz44 (by decide) rfl rfl rfl (show _ = some (encC c0) from rfl) ?_
   refine qO rfl <| op_load_sptr rfl rfl ta44 rfl <| qE rfl rfl Tryz.underlying44 rfl <| qC rfl rfl rfl rfl rfl <| qP rfl rfl rfl rfl <| qP rfl rfl rfl rfl <| qA rfl rfl rfl <| qN <| mwp_ret ?_
   exact ret_tmp (.inr rfl) Tryz.results103 rfl (.of_eq (by rw [large_eq]; congr 1; rw [Bool.eq_iff_iff]; first | (simp_all; done) | (simp_all; omega))) (.bool _) ⟨rfl, rfl⟩
  ·
   refine qS rfl <| qS rfl <| qS rfl <| qS rfl <| qS rfl <| qS rfl <| qP rfl rfl rfl rfl <| qP rfl rfl rfl rfl <| qA rfl rfl rfl <| qN <| mwp_ret ?_
   exact ret_tmp (.inr rfl) Tryz.results103 rfl (.of_eq (by rw [large_eq]; congr 1; rw [Bool.eq_iff_iff]; first | (simp_all; done) | (simp_all; omega))) (.bool _) ⟨rfl, rfl⟩
theorem later_spec (n1 m1 : Int) (s1 : List Bs) (c1 : List (List Tk)) (w1 : List Val) (n2 m2 : Int) (s2 : List Bs) (c2 : List (List Tk)) (w2 : List Val) (S : MS) : MCalls Tryz.prog 100 [encV (.mk n1 m1 s1 c1 w1), encV (.mk n2 m2 s2 c2 w2)] S fun v σ' => v = encV (laterF (.mk n1 m1 s1 c1 w1) (.mk n2 m2 s2 c2 w2)) ∧ σ' = S := by
 refine mcalls_body Tryz.func100 rfl Tryz.ntmps100 (Nat.le_of_ble_eq_true rfl) ?_
 refine mwp_seq <| qR rfl <| qB rfl rfl rfl rfl rfl <| qB rfl rfl rfl rfl rfl <| qO rfl <| op_alloc' rfl zm29 rfl rfl <| qN <| mwp_seq <| mwp_seq ?_
 rcases s1 with _ | ⟨x, s1⟩ <;> rcases s2 with _ | ⟨y, s2⟩
 ·
  refine mwp_draw [] [_] mo (by decide) rfl rfl rfl rfl ?_
  refine dO rfl rfl rfl (op_fieldAddr_ref rfl rfl fo29_2 ⟨rfl, rfl⟩) <| dO rfl rfl rfl (op_load' rfl rfl rfl ta25 rfl ⟨rfl, rfl⟩) <| dO rfl rfl rfl (op_len_lst rfl Tryz.underlying25 rfl ⟨rfl, rfl⟩) <| dO rfl rfl rfl (op_cmp rfl rfl rfl (eq_nil) ⟨rfl, rfl⟩) <| dO rfl rfl rfl (op_move rfl rfl ⟨rfl, rfl⟩) <| dS rfl rfl <| dS rfl rfl <| dS rfl rfl <| dS rfl rfl <| dS rfl rfl <| dS rfl rfl <| dS rfl rfl <| dS rfl rfl <| dS rfl rfl <| dS rfl rfl <| dS rfl rfl <| dS rfl rfl <| dS rfl rfl <| dS rfl rfl <| dS rfl rfl <| dS rfl rfl <| dS rfl rfl <| dS rfl rfl <| dS rfl rfl <| dS rfl rfl <| dS rfl rfl <| dS rfl rfl <| dS rfl rfl <| dS rfl rfl <| dS rfl rfl ?_
  refine dS rfl rfl <| dS rfl rfl <| dS rfl rfl <| dO rfl rfl rfl (op_pick rfl rfl rfl ⟨rfl, rfl⟩) <| dOps_nil <| mwp_cond_t rfl (rfl) <| mwp_seq <| qR rfl <| qL rfl rfl rfl rfl ta29 rfl <| qO rfl <| op_store' rfl rfl rfl rfl sz29 rfl rfl (Nat.le_of_ble_eq_true rfl) rfl <| qN <| mwp_ret ?_
  exact ret_cell (.inr rfl) Tryz.results100 rfl rfl ta29 rfl (.refl _) (cl_encV _ (.mk n2 m2 [] c2 w2)) ⟨by rw [show laterF (.mk n1 m1 [] c1 w1) (.mk n2 m2 [] c2 w2) = .mk n2 m2 [] c2 w2 from if_pos (.inl rfl)]; rfl, rfl⟩
 ·
  refine mwp_draw [] [_] mo (by decide) rfl rfl rfl rfl ?_
  refine dO rfl rfl rfl (op_fieldAddr_ref rfl rfl fo29_2 ⟨rfl, rfl⟩) <| dO rfl rfl rfl (op_load' rfl rfl rfl ta25 rfl ⟨rfl, rfl⟩) <| dO rfl rfl rfl (op_len_lst rfl Tryz.underlying25 rfl ⟨rfl, rfl⟩) <| dO rfl rfl rfl (op_cmp rfl rfl rfl (eq_nil) ⟨rfl, rfl⟩) <| dO rfl rfl rfl (op_move rfl rfl ⟨rfl, rfl⟩) <| dS rfl rfl <| dS rfl rfl <| dS rfl rfl <| dS rfl rfl <| dS rfl rfl <| dS rfl rfl <| dS rfl rfl <| dS rfl rfl <| dS rfl rfl <| dS rfl rfl <| dS rfl rfl <| dS rfl rfl <| dS rfl rfl <| dS rfl rfl <| dS rfl rfl <| dS rfl rfl <| dS rfl rfl <| dS rfl rfl <| dS rfl rfl <| dS rfl rfl <| dS rfl rfl <| dS rfl rfl <| dS rfl rfl <| dS rfl rfl <| dS rfl rfl ?_
  refine dS rfl rfl <| dS rfl rfl <| dS rfl rfl <| dO rfl rfl rfl (op_pick rfl rfl rfl ⟨rfl, rfl⟩) <| dOps_nil <| mwp_cond_t rfl (rfl) <| mwp_seq <| qR rfl <| qL rfl rfl rfl rfl ta29 rfl <| qO rfl <| op_store' rfl rfl rfl rfl sz29 rfl rfl (Nat.le_of_ble_eq_true rfl) rfl <| qN <| mwp_ret ?_
  exact ret_cell (.inr rfl) Tryz.results100 rfl rfl ta29 rfl (.refl _) (cl_encV _ (.mk n2 m2 (y :: s2) c2 w2)) ⟨by rw [show laterF (.mk n1 m1 [] c1 w1) (.mk n2 m2 (y :: s2) c2 w2) = .mk n2 m2 (y :: s2) c2 w2 from if_pos (.inl rfl)]; rfl, rfl⟩
 ·
  refine mwp_draw [] [_] mo (by decide) rfl rfl rfl rfl ?_
  refine dO rfl rfl rfl (op_fieldAddr_ref rfl rfl fo29_2 ⟨rfl, rfl⟩) <| dO rfl rfl rfl (op_load' rfl rfl rfl ta25 rfl ⟨rfl, rfl⟩) <| dO rfl rfl rfl (op_len_lst rfl Tryz.underlying25 rfl ⟨rfl, rfl⟩) <| dO rfl rfl rfl (op_cmp rfl rfl rfl (eq_cons) ⟨rfl, rfl⟩) <| dO rfl rfl rfl (op_move rfl rfl ⟨rfl, rfl⟩) <| dO rfl rfl rfl (op_fieldAddr_ref rfl rfl fo29_2 ⟨rfl, rfl⟩) <| dO rfl rfl rfl (op_load' rfl rfl rfl ta25 rfl ⟨rfl, rfl⟩) <| dO rfl rfl rfl (op_len_lst rfl Tryz.underlying25 rfl ⟨rfl, rfl⟩) <| dO rfl rfl rfl (op_cmp rfl rfl rfl (gt_nil) ⟨rfl, rfl⟩) <| dO rfl rfl rfl (op_move rfl rfl ⟨rfl, rfl⟩) <| dS rfl rfl <| dS rfl rfl <| dS rfl rfl <| dS rfl rfl <| dS rfl rfl <| dS rfl rfl <| dS rfl rfl <| dS rfl rfl <| dS rfl rfl <| dS rfl rfl <| dS rfl rfl <| dS rfl rfl <| dS rfl rfl <| dS rfl rfl <| dS rfl rfl <| dS rfl rfl <| dS rfl rfl <| dS rfl rfl <| dS rfl rfl <| dS rfl rfl ?_
  refine dS rfl rfl <| dS rfl rfl <| dO rfl rfl rfl (op_pick rfl rfl rfl ⟨rfl, rfl⟩) <| dO rfl rfl rfl (op_pick rfl rfl rfl ⟨rfl, rfl⟩) <| dOps_nil <| mwp_cond_f rfl (rfl) <| mwp_skip <| mwp_seq <| qR rfl <| qL rfl rfl rfl rfl ta29 rfl <| qO rfl <| op_store' rfl rfl rfl rfl sz29 rfl rfl (Nat.le_of_ble_eq_true rfl) rfl <| qN <| mwp_ret ?_
  exact ret_cell (.inr rfl) Tryz.results100 rfl rfl ta29 rfl (.refl _) (cl_encV _ (.mk n1 m1 (x :: s1) c1 w1)) ⟨by rw [show laterF (.mk n1 m1 (x :: s1) c1 w1) (.mk n2 m2 [] c2 w2) = .mk n1 m1 (x :: s1) c1 w1 from if_neg (by simp [Val.sv])]; rfl, rfl⟩
 ·
  refine mwp_draw [] [_] mo (by decide) rfl rfl rfl rfl ?_
  refine dO rfl rfl rfl (op_fieldAddr_ref rfl rfl fo29_2 ⟨rfl, rfl⟩) <| dO rfl rfl rfl (op_load' rfl rfl rfl ta25 rfl ⟨rfl, rfl⟩) <| dO rfl rfl rfl (op_len_lst rfl Tryz.underlying25 rfl ⟨rfl, rfl⟩) <| dO rfl rfl rfl (op_cmp rfl rfl rfl (eq_cons) ⟨rfl, rfl⟩) <| dO rfl rfl rfl (op_move rfl rfl ⟨rfl, rfl⟩) <| dO rfl rfl rfl (op_fieldAddr_ref rfl rfl fo29_2 ⟨rfl, rfl⟩) <| dO rfl rfl rfl (op_load' rfl rfl rfl ta25 rfl ⟨rfl, rfl⟩) <| dO rfl rfl rfl (op_len_lst rfl Tryz.underlying25 rfl ⟨rfl, rfl⟩) <| dO rfl rfl rfl (op_cmp rfl rfl rfl (gt_cons) ⟨rfl, rfl⟩) <| dO rfl rfl rfl (op_move rfl rfl ⟨rfl, rfl⟩) <| dO rfl rfl rfl (op_fieldAddr_ref rfl rfl fo29_0 ⟨rfl, rfl⟩) <| dO rfl rfl rfl (op_load' rfl rfl rfl ta24 rfl ⟨rfl, rfl⟩) <| dO rfl rfl rfl (op_fieldAddr_ref rfl rfl fo29_0 ⟨rfl, rfl⟩) <| dO rfl rfl rfl (op_load' rfl rfl rfl ta24 rfl ⟨rfl, rfl⟩) <| dOps_op rfl rfl (.cons (op_call rfl rfl rfl co135 (compareu_spec n1 n2 _)) .nil) <| dO rfl rfl rfl (op_fieldAddr_ref rfl rfl fo29_1 ⟨rfl, rfl⟩) <| dO rfl rfl rfl (op_load' rfl rfl rfl ta24 rfl ⟨rfl, rfl⟩) <| dO rfl rfl rfl (op_fieldAddr_ref rfl rfl fo29_1 ⟨rfl, rfl⟩) <| dO rfl rfl rfl (op_load' rfl rfl rfl ta24 rfl ⟨rfl, rfl⟩) <| dOps_op rfl rfl (.cons (op_call rfl rfl rfl co135 (compareu_spec m1 m2 _)) .nil) <| dO rfl rfl rfl (op_fieldAddr_ref rfl rfl fo29_2 ⟨rfl, rfl⟩) <| dO rfl rfl rfl (op_load' rfl rfl rfl ta25 rfl ⟨rfl, rfl⟩) <| dO rfl rfl rfl (op_indexAddr rfl Tryz.underlying25 sz9 (by decide) rfl rfl rfl (show _ = some (encX x) from rfl) ⟨rfl, rfl⟩) ?_
  refine dO rfl rfl rfl (op_load_sptr rfl rfl ta9 rfl ⟨rfl, rfl⟩) <| dO rfl rfl rfl (op_fieldAddr_ref rfl rfl fo29_2 ⟨rfl, rfl⟩) <| dO rfl rfl rfl (op_load' rfl rfl rfl ta25 rfl ⟨rfl, rfl⟩) <| dO rfl rfl rfl (op_indexAddr rfl Tryz.underlying25 sz9 (by decide) rfl rfl rfl (show _ = some (encX y) from rfl) ⟨rfl, rfl⟩) ?_
  refine dO rfl rfl rfl (op_load_sptr rfl rfl ta9 rfl ⟨rfl, rfl⟩) <| dOps_op rfl rfl (.cons (op_call rfl rfl rfl co132 (strCmp_spec x y _)) .nil) <| dO rfl rfl rfl (op_buildSlice rfl Tryz.underlying169 el3 rfl rfl (by decide) (by decide) rfl rfl ⟨rfl, rfl⟩) ?_
  refine dOps_op rfl rfl (.cons (op_call rfl rfl rfl co134 (cmpOr_spec [cmpI n1 n2, cmpI m1 m2, cmpX x y] _)) .nil) <| dO rfl rfl rfl (op_cmp rfl rfl rfl rfl ⟨rfl, rfl⟩) <| dO rfl rfl rfl (op_pick rfl rfl rfl ⟨rfl, rfl⟩) <| dO rfl rfl rfl (op_pick rfl rfl rfl ⟨rfl, rfl⟩) <| dOps_nil ?_
  refine mwp_cond_split rfl (fun h38 => ?_) (fun h38 => ?_)
  ·
   refine mwp_seq <| qR rfl <| qL rfl rfl rfl rfl ta29 rfl <| qO rfl <| op_store' rfl rfl rfl rfl sz29 rfl rfl (Nat.le_of_ble_eq_true rfl) rfl <| qN <| mwp_ret ?_
   exact ret_cell (.inr rfl) Tryz.results100 rfl rfl ta29 rfl (.refl _) (cl_encV _ (.mk n2 m2 (y :: s2) c2 w2)) ⟨by rw [show laterF (.mk n1 m1 (x :: s1) c1 w1) (.mk n2 m2 (y :: s2) c2 w2) = .mk n2 m2 (y :: s2) c2 w2 from if_pos (.inr ⟨by simp [Val.sv], by rw [or_three] at h38; simpa [laterC, Val.nv, Val.mv, Val.sv] using h38⟩)]; rfl, rfl⟩
  ·
   refine mwp_skip <| mwp_seq <| qR rfl <| qL rfl rfl rfl rfl ta29 rfl <| qO rfl <| op_store' rfl rfl rfl rfl sz29 rfl rfl (Nat.le_of_ble_eq_true rfl) rfl <| qN <| mwp_ret ?_
   exact ret_cell (.inr rfl) Tryz.results100 rfl rfl ta29 rfl (.refl _) (cl_encV _ (.mk n1 m1 (x :: s1) c1 w1)) ⟨by rw [show laterF (.mk n1 m1 (x :: s1) c1 w1) (.mk n2 m2 (y :: s2) c2 w2) = .mk n1 m1 (x :: s1) c1 w1 from if_neg (by rw [or_three] at h38; simpa [laterC, Val.nv, Val.mv, Val.sv] using h38)]; rfl, rfl⟩
theorem clocks_spec (n1 m1 : Int) (s1 : List Bs) (c1 : List (List Tk)) (w1 : List Val) (n2 m2 : Int) (s2 : List Bs) (c2 : List (List Tk)) (w2 : List Val) (hl : ∀ x ∈ c1, ∀ y ∈ c2, x.length + y.length ≤ 1000000) (S : MS) : MCalls Tryz.prog 101 [encV (.mk n1 m1 s1 c1 w1), encV (.mk n2 m2 s2 c2 w2)] S fun v σ' => v = encV (clocksF (.mk n1 m1 s1 c1 w1) (.mk n2 m2 s2 c2 w2)) ∧ σ' = S := by
 refine mcalls_body Tryz.func101 rfl Tryz.ntmps101 (Nat.le_of_ble_eq_true rfl) ?_
 refine mwp_seq <| qR rfl <| qB rfl rfl rfl rfl rfl <| qB rfl rfl rfl rfl rfl <| qO rfl <| op_alloc' rfl zm29 rfl rfl <| qN <| mwp_seq <| mwp_block <| mwp_seq ?_
 rcases c1 with _ | ⟨x, c1⟩ <;> rcases c2 with _ | ⟨y, c2⟩
 ·
  refine qR rfl <| qF rfl rfl rfl fo29_3 <| qL rfl rfl rfl rfl ta26 rfl <| qE rfl rfl Tryz.underlying26 rfl <| qC rfl rfl rfl rfl (eq_nil) <| qA rfl rfl rfl <| qN <| mwp_cond_t rfl (rfl) <| mwp_seq <| qR rfl <| qL rfl rfl rfl rfl ta29 rfl <| qO rfl <| op_store' rfl rfl rfl rfl sz29 rfl rfl (Nat.le_of_ble_eq_true rfl) rfl <| qN <| mwp_ret ?_
  exact ret_cell (.inr rfl) Tryz.results101 rfl rfl ta29 rfl (.refl _) (cl_encV _ (.mk n2 m2 s2 [] w2)) ⟨rfl, rfl⟩
 ·
  refine qR rfl <| qF rfl rfl rfl fo29_3 <| qL rfl rfl rfl rfl ta26 rfl <| qE rfl rfl Tryz.underlying26 rfl <| qC rfl rfl rfl rfl (eq_nil) <| qA rfl rfl rfl <| qN <| mwp_cond_t rfl (rfl) <| mwp_seq <| qR rfl <| qL rfl rfl rfl rfl ta29 rfl <| qO rfl <| op_store' rfl rfl rfl rfl sz29 rfl rfl (Nat.le_of_ble_eq_true rfl) rfl <| qN <| mwp_ret ?_
  exact ret_cell (.inr rfl) Tryz.results101 rfl rfl ta29 rfl (.refl _) (cl_encV _ (.mk n2 m2 s2 (y :: c2) w2)) ⟨rfl, rfl⟩
 ·
  refine qR rfl <| qF rfl rfl rfl fo29_3 <| qL rfl rfl rfl rfl ta26 rfl <| qE rfl rfl Tryz.underlying26 rfl <| qC rfl rfl rfl rfl (eq_cons) <| qA rfl rfl rfl <| qN <| mwp_cond_f rfl (rfl) <| mwp_seq <| qR rfl <| qF rfl rfl rfl fo29_3 <| qL rfl rfl rfl rfl ta26 rfl <| qE rfl rfl Tryz.underlying26 rfl <| qC rfl rfl rfl rfl (eq_nil) <| qA rfl rfl rfl <| qN <| mwp_cond_t rfl (rfl) <| mwp_seq <| qR rfl <| qL rfl rfl rfl rfl ta29 rfl ?_
  refine qO rfl <| op_store' rfl rfl rfl rfl sz29 rfl rfl (Nat.le_of_ble_eq_true rfl) rfl <| qN <| mwp_ret ?_
  exact ret_cell (.inr rfl) Tryz.results101 rfl rfl ta29 rfl (.refl _) (cl_encV _ (.mk n1 m1 s1 (x :: c1) w1)) ⟨rfl, rfl⟩
 ·
  refine qR rfl <| qF rfl rfl rfl fo29_3 <| qL rfl rfl rfl rfl ta26 rfl <| qE rfl rfl Tryz.underlying26 rfl <| qC rfl rfl rfl rfl (eq_cons) <| qA rfl rfl rfl <| qN <| mwp_cond_f rfl (rfl) <| mwp_seq <| qR rfl <| qF rfl rfl rfl fo29_3 <| qL rfl rfl rfl rfl ta26 rfl <| qE rfl rfl Tryz.underlying26 rfl <| qC rfl rfl rfl rfl (eq_cons) <| qA rfl rfl rfl <| qN <| mwp_cond_f rfl (rfl) <| mwp_skip <| mwp_seq ?_
  refine mwp_draw [11] [_, S ++ [.cells (encV (.mk n1 m1 s1 (x :: c1) w1)).cells, .cells (encV (.mk n2 m2 s2 (y :: c2) w2)).cells, .cells [.int .u64 0, .int .u64 0, .lst0, .lst none 1 [encC (joinF x y)], .lst0]]] mo (by decide) rfl rfl rfl rfl ?_
  refine dO rfl rfl rfl (op_fieldAddr_ref rfl rfl fo29_3 ⟨rfl, rfl⟩) <| dO rfl rfl rfl (op_load' rfl rfl rfl ta26 rfl ⟨rfl, rfl⟩) <| dO rfl rfl rfl (op_indexAddr rfl Tryz.underlying26 sz44 (by decide) rfl rfl rfl (show _ = some (encC x) from rfl) ⟨rfl, rfl⟩) ?_
  refine dO rfl rfl rfl (op_load_sptr rfl rfl ta44 rfl ⟨rfl, rfl⟩) <| dO rfl rfl rfl (op_fieldAddr_ref rfl rfl fo29_3 ⟨rfl, rfl⟩) <| dO rfl rfl rfl (op_load' rfl rfl rfl ta26 rfl ⟨rfl, rfl⟩) <| dO rfl rfl rfl (op_indexAddr rfl Tryz.underlying26 sz44 (by decide) rfl rfl rfl (show _ = some (encC y) from rfl) ⟨rfl, rfl⟩) ?_
  refine dO rfl rfl rfl (op_load_sptr rfl rfl ta44 rfl ⟨rfl, rfl⟩) <| dOps_op rfl rfl (.cons (op_call rfl rfl rfl co136 (clkJoin_spec x y (hl x (by simp) y (by simp)) _)) .nil) ?_
  refine dO rfl rfl rfl (op_buildSlice rfl Tryz.underlying26 el44 rfl rfl (by decide) (by decide) rfl rfl ⟨rfl, rfl⟩) ?_
  refine dO rfl rfl rfl (op_build rfl Tryz.underlying29 zm29 (.cons fo29_3 sz26 rfl rfl (Nat.le_of_ble_eq_true rfl) .nil) (by kernel_rfl) ⟨rfl, rfl⟩) ?_
  refine dOps_eff rfl rfl rfl rfl (op_store' rfl rfl rfl rfl sz29 rfl rfl (Nat.le_of_ble_eq_true rfl) rfl ⟨rfl, rfl⟩) <| dOps_nil <| mwp_ret ?_
  exact ret_cell (.inr rfl) Tryz.results101 rfl rfl ta29 rfl (.agg (.cons (.refl _) (.cons (.refl _) (.cons (.nil 1) (.cons (.refl _) (.cons (.nil 5) .nil)))))) (cl_encV _ (.mk 0 0 [] [joinF x y] [])) ⟨rfl, rfl⟩
end Go.Proofs.YtlooahbfpmigfaaGreat
end
section
set_option linter.unusedVariables false
set_option linter.unusedSimpArgs false
set_option maxRecDepth 20000
namespace Go.Proofs.YtlooahbfpmigfaaGreat
open Go Go.MV
noncomputable def isLV (v : Val) : Bool := isVF (.mk 6 []) v
theorem lv_form {v : Val} (h : isLV v = true) : v = noV ∨ ∃ n m t, v = .mk n m [t] [] [] ∧ (n ≠ 0 ∨ m ≠ 0 ∨ t ≠ []) ∧ t.length ≤ 16 := by
  obtain ⟨n, m, s, c, w⟩ := v
  unfold isLV at h
  rw [isVF_mk 6] at h
  simp [bareF, numsK, textsK, clocksK, valuesK, Val.nv, Val.mv, Val.sv, Val.cv, Val.vv, isLastF] at h
  match s with
  | [] =>
    simp [isLastF] at h
    refine .inl ?_
    obtain ⟨⟨⟨⟨h1, h2⟩, _⟩, _⟩, h3, h4⟩ := h
    subst h1 h2 h3 h4
    rfl
  | [t] =>
    simp [isLastF] at h
    obtain ⟨⟨⟨⟨h1, h2⟩, _⟩, _⟩, h3, h4⟩ := h
    subst h1 h2
    exact .inr ⟨n, m, t, rfl, by rcases h4 with (h4 | h4) | h4 <;> simp [h4], h3⟩
  | _ :: _ :: _ => simp [isLastF] at h
def LT3 (n m : Int) (t : Bs) (n2 m2 : Int) (t2 : Bs) : Prop := n < n2 ∨ (n = n2 ∧ (m < m2 ∨ (m = m2 ∧ ltB t t2)))
theorem laterC_cases (n m n2 m2 : Int) (t t2 : Bs) (s s2 : List Bs) (c c2 : List (List Tk)) (w w2 : List Val) : laterC (.mk n m (t :: s) c w) (.mk n2 m2 (t2 :: s2) c2 w2) < 0 ↔ LT3 n m t n2 m2 t2 := by
  unfold laterC LT3
  simp only [Val.nv, Val.mv, Val.sv, List.headD_cons, cmpI]
  rw [← cmpX_lt]
  repeat' split
  all_goals omega
theorem laterF_yes {n m n2 m2 : Int} {t t2 : Bs} (s s2 : List Bs) (c c2 : List (List Tk)) (w w2 : List Val) (h : LT3 n m t n2 m2 t2) : laterF (.mk n m (t :: s) c w) (.mk n2 m2 (t2 :: s2) c2 w2) = .mk n2 m2 (t2 :: s2) c2 w2 := if_pos (.inr ⟨by simp [Val.sv], (laterC_cases ..).2 h⟩)
theorem laterF_not {n m n2 m2 : Int} {t t2 : Bs} (s s2 : List Bs) (c c2 : List (List Tk)) (w w2 : List Val) (h : ¬ LT3 n m t n2 m2 t2) : laterF (.mk n m (t :: s) c w) (.mk n2 m2 (t2 :: s2) c2 w2) = .mk n m (t :: s) c w := if_neg (fun h2 => h2.elim (fun h3 => by simp [Val.sv] at h3) fun h3 => h ((laterC_cases ..).1 h3.2))
theorem lt3_tri (n m : Int) (t : Bs) (n2 m2 : Int) (t2 : Bs) : LT3 n m t n2 m2 t2 ∨ (n = n2 ∧ m = m2 ∧ t = t2) ∨ LT3 n2 m2 t2 n m t := by
  unfold LT3
  rcases Int.lt_trichotomy n n2 with h | h | h
  · exact .inl (.inl h)
  · rcases Int.lt_trichotomy m m2 with h2 | h2 | h2
    · exact .inl (.inr ⟨h, .inl h2⟩)
    · rcases ltB_total t t2 with h3 | h3 | h3
      · exact .inl (.inr ⟨h, .inr ⟨h2, h3⟩⟩)
      · exact .inr (.inl ⟨h, h2, h3⟩)
      · exact .inr (.inr (.inr ⟨h.symm, .inr ⟨h2.symm, h3⟩⟩))
    · exact .inr (.inr (.inr ⟨h.symm, .inl h2⟩))
  · exact .inr (.inr (.inl h))
theorem lt3_asymm {n m : Int} {t : Bs} {n2 m2 : Int} {t2 : Bs} (h : LT3 n m t n2 m2 t2) : ¬ LT3 n2 m2 t2 n m t := by
  unfold LT3 at *
  rintro (h2 | ⟨_, h2 | ⟨_, h2⟩⟩)
  · omega
  · omega
  · rcases h with h | ⟨_, h | ⟨_, h⟩⟩
    · omega
    · omega
    · exact ltB_asymm h h2
theorem laterF_comm {a b : Val} (ha : isLV a = true) (hb : isLV b = true) : laterF a b = laterF b a := by
  rcases lv_form ha with rfl | ⟨n, m, t, rfl, _, _⟩ <;> rcases lv_form hb with rfl | ⟨n2, m2, t2, rfl, _, _⟩
  · rfl
  · unfold laterF; simp [noV, Val.sv]
  · unfold laterF; simp [noV, Val.sv]
  · rcases lt3_tri n m t n2 m2 t2 with h | ⟨rfl, rfl, rfl⟩ | h
    · rw [laterF_yes _ _ _ _ _ _ h, laterF_not _ _ _ _ _ _ (lt3_asymm h)]
    · rfl
    · rw [laterF_yes _ _ _ _ _ _ h, laterF_not _ _ _ _ _ _ (lt3_asymm h)]
theorem laterF_or (a b : Val) : laterF a b = a ∨ laterF a b = b := by
  unfold laterF
  split
  · exact .inr rfl
  · exact .inl rfl
theorem lt3_trans {n m : Int} {t : Bs} {n2 m2 : Int} {t2 : Bs} {n3 m3 : Int} {t3 : Bs} (h : LT3 n m t n2 m2 t2) (h2 : LT3 n2 m2 t2 n3 m3 t3) : LT3 n m t n3 m3 t3 := by
  unfold LT3 at *
  rcases h with h | ⟨e, h | ⟨e2, h⟩⟩ <;> rcases h2 with h2 | ⟨f, h2 | ⟨f2, h2⟩⟩
  · exact .inl (by omega)
  · exact .inl (by omega)
  · exact .inl (by omega)
  · exact .inl (by omega)
  · exact .inr ⟨by omega, .inl (by omega)⟩
  · exact .inr ⟨by omega, .inl (by omega)⟩
  · exact .inl (by omega)
  · exact .inr ⟨by omega, .inl (by omega)⟩
  · exact .inr ⟨by omega, .inr ⟨by omega, ltB_trans h h2⟩⟩
theorem later_no (b : Val) : laterF noV b = b := if_pos (.inl rfl)
theorem later_no_r {a : Val} (ha : isLV a = true) : laterF a noV = a := by
  rw [laterF_comm ha (by unfold isLV noV; rw [isVF_mk 6]; rfl), later_no]
theorem laterF_assoc {a b c : Val} (ha : isLV a = true) (hb : isLV b = true) (hc : isLV c = true) : laterF (laterF a b) c = laterF a (laterF b c) := by
  rcases lv_form ha with rfl | ⟨n, m, t, rfl, _, _⟩
  · rw [later_no, later_no]
  · rcases lv_form hb with rfl | ⟨n2, m2, t2, rfl, _, _⟩
    · rw [later_no_r ha, later_no]
    · rcases lv_form hc with rfl | ⟨n3, m3, t3, rfl, _, _⟩
      · rw [later_no_r hb]
        rcases laterF_or (.mk n m [t] [] []) (.mk n2 m2 [t2] [] []) with e | e <;> rw [e]
        · exact later_no_r ha
        · exact later_no_r hb
      · by_cases h1 : LT3 n m t n2 m2 t2 <;> by_cases h2 : LT3 n2 m2 t2 n3 m3 t3
        · rw [laterF_yes _ _ _ _ _ _ h1, laterF_yes _ _ _ _ _ _ h2, laterF_yes _ _ _ _ _ _ (lt3_trans h1 h2)]
        · rw [laterF_yes _ _ _ _ _ _ h1, laterF_not _ _ _ _ _ _ h2, laterF_yes _ _ _ _ _ _ h1]
        · rw [laterF_not _ _ _ _ _ _ h1, laterF_yes _ _ _ _ _ _ h2]
        · rw [laterF_not _ _ _ _ _ _ h1, laterF_not _ _ _ _ _ _ h2, laterF_not _ _ _ _ _ _ h1]
          refine laterF_not _ _ _ _ _ _ fun h3 => ?_
          rcases lt3_tri n2 m2 t2 n3 m3 t3 with h4 | ⟨rfl, rfl, rfl⟩ | h4
          · exact h2 h4
          · exact h1 h3
          · exact h1 (lt3_trans h3 h4)
end Go.Proofs.YtlooahbfpmigfaaGreat
end
section
set_option linter.unusedVariables false
set_option linter.unusedSimpArgs false
set_option maxRecDepth 20000
set_option maxHeartbeats 400000
namespace Go.Proofs.YtlooahbfpmigfaaGreat
open Go Go.MV
theorem stJ_fl {cmp : List Tk → List Tk → Int} {a b : List (REnt (List Tk))} {S : MS} (A : MS) {x y z : MObj} {j : Nat} : stJ cmp a b (S ++ (A ++ [x, y, z])) (S ++ A).length ((S ++ A).length + 1) j = S ++ (A ++ [.cells [.lst none 3 ((restE cmp a b j).1.map (encR encC))], .cells [.lst none 3 ((restE cmp a b j).2.map (encR encC))], z]) := by
 unfold stJ
 rw [← List.append_assoc, List.set_append_right _ _ (Nat.le_refl _), Nat.sub_self, List.set_append_right _ _ (by simp), ← List.append_assoc]
 simp
theorem get_fl {S : MS} (A : MS) {B : MS} (k : Nat) {o : MObj} (h : B[k]? = some o) : (S ++ (A ++ B))[(S ++ A).length + k]? = some o := by
 rw [← List.append_assoc, getElem?_own]
 exact h
theorem cl_outC {acc : List (List Tk × Val)} {t u n : Nat} (ht : t < n) (hu : u < n) : (MObj.cells [.int .u64 0, .int .u64 0, .lst0, .lst (some t) 1 (acc.map fun e => encC e.1), .lst (some u) 5 (acc.map fun e => encV e.2)]).cl n := by
 intro x hx
 simp only [List.mem_cons, List.not_mem_nil, or_false] at hx
 rcases hx with rfl | rfl | rfl | rfl | rfl
 ·exact .int _ _
 ·exact .int _ _
 ·exact .lst0
 ·exact cl_lstT ht (fun e : List Tk × Val => cl_encC n e.1) (fun e => .inr rfl)
 ·exact cl_lstT hu (fun e : List Tk × Val => cl_encV n e.2) (fun e => by cases e.2; exact .inl rfl)
theorem one_encE (e : Ent (List Tk)) : (encE encC e).cells.all MV.one = true := by obtain ⟨k, v, o⟩ := e; cases o <;> rfl
theorem filt_snoc {α : Type} {l : List α} {p : α → Bool} {i : Nat} {a : α} (h : l[i]? = some a) : (l.take (i + 1)).filter p = (l.take i).filter p ++ (if p a then [a] else []) := by
 rw [List.take_add_one, h, Option.toList_some, List.filter_append]
 congr 1
 simp [List.filter_cons]
theorem goE_snoc {κ : Type} {f : Val → Val → Option Val} {a : List (Ent κ)} {x : List (κ × Val)} {e : Ent κ} {v : Val} (h : goE f a = some x) (he : ofE f e = some v) : goE f (a ++ [e]) = some (x ++ [(e.1, v)]) := by
 rw [goE_append, h]
 simp [goE, he]
theorem goE_bad {κ : Type} {f : Val → Val → Option Val} : ∀ {a : List (Ent κ)} {e : Ent κ}, e ∈ a → ofE f e = none → goE f a = none
 | x :: a, e, h, he => by
  rw [goE]
  rcases List.mem_cons.1 h with rfl | h
  ·rw [he]
  ·rw [goE_bad h he]
   cases ofE f x <;> rfl
theorem filt_len {α : Type} (l : List α) (p : α → Bool) (i : Nat) : ((l.take i).filter p).length ≤ i := Nat.le_trans (List.length_filter_le _ _) (by rw [List.length_take]; omega)
theorem zip_mem1 {α β : Type} {a : List α} {b : List β} {x : α} {y : β} (h : (x, y) ∈ a.zip b) : x ∈ a := (List.of_mem_zip h).1
theorem zip_mem2 {α β : Type} {a : List α} {b : List β} {x : α} {y : β} (h : (x, y) ∈ a.zip b) : y ∈ b := (List.of_mem_zip h).2
theorem causes_spec (k k1 : Int) (i1 rest : List Sch) (f : Val → Val → Option Val) (n1 m1 : Int) (s1 : List Bs) (c1 : List (List Tk)) (w1 : List Val) (n2 m2 : Int) (s2 : List Bs) (c2 : List (List Tk)) (w2 : List Val) (hl1 : c1.length = w1.length) (hl2 : c2.length = w2.length) (h1 : c1.length ≤ 40) (h2 : c2.length ≤ 40) (hk1 : ∀ x ∈ c1, x.length ≤ 1000) (hk2 : ∀ x ∈ c2, x.length ≤ 1000) (hb : ∀ x ∈ w1, ∀ y ∈ w2, ∀ S : MS, MCalls Tryz.prog 68 [encS (.mk k1 i1), encV x, encV y] S fun v σ' => v = encO (f x y) ∧ σ' = S) (S : MS) : MCalls Tryz.prog 102 [encS (.mk k (.mk k1 i1 :: rest)), encV (.mk n1 m1 s1 c1 w1), encV (.mk n2 m2 s2 c2 w2)] S fun v σ' => v = encO (causesF f (.mk n1 m1 s1 c1 w1) (.mk n2 m2 s2 c2 w2)) ∧ σ' = S := by
 refine mcalls_body Tryz.func102 rfl Tryz.ntmps102 (Nat.le_of_ble_eq_true rfl) ?_
 generalize hl : mergedC (.mk n1 m1 s1 c1 w1) (.mk n2 m2 s2 c2 w2) = l
 have hll : l.length ≤ 80 := by rw [← hl]; have := mergeE_len byTicksF (c1.zip w1) (c2.zip w2); simp only [mergedC, entC, Val.cv, Val.vv, List.length_zip] at *; omega
 have hlen : l.length ≤ maxLen := by simp only [maxLen]; omega
 have hmem : ∀ e ∈ l, e.1.length ≤ 1000 ∧ ∀ y, e.2.2 = some y → e.2.1 ∈ w1 ∧ y ∈ w2 := fun e h => by
  obtain ⟨p, q⟩ := mergeE_mem _ _ _ e (by rw [← hl] at h; exact h)
  refine ⟨p.elim (fun h => hk1 _ (zip_mem1 h)) (fun h => hk2 _ (zip_mem1 h)), fun y hy => ?_⟩
  obtain ⟨q1, k, q2⟩ := q y hy
  exact ⟨zip_mem2 q1, zip_mem2 q2⟩
 refine mwp_seq <| qR rfl <| qB rfl rfl rfl rfl rfl <| qB rfl rfl rfl rfl rfl <| qB rfl rfl rfl rfl rfl <| qO rfl <| op_alloc' rfl zm29 rfl rfl <| qA rfl rfl rfl <| qN <| mwp_seq ?_
 refine mwp_draw [10, 11] [_, S ++ [.cells (encS (.mk k (.mk k1 i1 :: rest))).cells, .cells (encV (.mk n1 m1 s1 c1 w1)).cells, .cells (encV (.mk n2 m2 s2 c2 w2)).cells, .cells [.int .u64 0, .int .u64 0, .lst0, .lst0, .lst0], .cells [.lst none 3 ((c1.zip w1).map (encR encC))], .cells [.lst none 3 ((c2.zip w2).map (encR encC))], .cells [.fn (.func 140) [] []]], S ++ [.cells (encS (.mk k (.mk k1 i1 :: rest))).cells, .cells (encV (.mk n1 m1 s1 c1 w1)).cells, .cells (encV (.mk n2 m2 s2 c2 w2)).cells, .cells [.int .u64 0, .int .u64 0, .lst0, .lst0, .lst0], .cells [.lst none 3 ((restE byTicksF (c1.zip w1) (c2.zip w2) (mergedC (.mk n1 m1 s1 c1 w1) (.mk n2 m2 s2 c2 w2)).length).1.map (encR encC))], .cells [.lst none 3 ((restE byTicksF (c1.zip w1) (c2.zip w2) (mergedC (.mk n1 m1 s1 c1 w1) (.mk n2 m2 s2 c2 w2)).length).2.map (encR encC))], .cells [.fn (.func 140) [] []]]] mo (by decide) rfl rfl rfl rfl ?_
 refine dOps_op rfl rfl (.cons (op_fieldAddr_ref rfl rfl fo29_3 ⟨rfl, rfl⟩) (.cons (op_fieldAddr_ref rfl rfl fo29_3 ⟨rfl, rfl⟩) (.cons (op_fieldAddr_ref rfl rfl fo29_3 ⟨rfl, rfl⟩) (.nil)))) <| dOps_op rfl rfl (.cons (op_load' rfl rfl rfl ta26 rfl ⟨rfl, rfl⟩) (.cons (op_load' rfl rfl rfl ta26 rfl ⟨rfl, rfl⟩) (.cons (op_load' rfl rfl rfl ta26 rfl ⟨rfl, rfl⟩) (.nil)))) <| dOps_op rfl rfl (.cons (op_fieldAddr_ref rfl rfl fo29_4 ⟨rfl, rfl⟩) (.cons (op_fieldAddr_ref rfl rfl fo29_4 ⟨rfl, rfl⟩) (.cons (op_fieldAddr_ref rfl rfl fo29_4 ⟨rfl, rfl⟩) (.nil)))) <| dOps_op rfl rfl (.cons (op_load' rfl rfl rfl ta27 rfl ⟨rfl, rfl⟩) (.cons (op_load' rfl rfl rfl ta27 rfl ⟨rfl, rfl⟩) (.cons (op_load' rfl rfl rfl ta27 rfl ⟨rfl, rfl⟩) (.nil)))) <| dOps_op rfl rfl (.cons (op_call rfl rfl rfl co139 (crow_spec c1 w1 hl1 (by omega) _)) .nil) ?_
 refine dOps_op rfl rfl (.cons (op_fieldAddr_ref rfl rfl fo29_3 ⟨rfl, rfl⟩) (.cons (op_fieldAddr_ref rfl rfl fo29_3 ⟨rfl, rfl⟩) (.cons (op_fieldAddr_ref rfl rfl fo29_3 ⟨rfl, rfl⟩) (.nil)))) <| dOps_op rfl rfl (.cons (op_load' rfl rfl rfl ta26 rfl ⟨rfl, rfl⟩) (.cons (op_load' rfl rfl rfl ta26 rfl ⟨rfl, rfl⟩) (.cons (op_load' rfl rfl rfl ta26 rfl ⟨rfl, rfl⟩) (.nil)))) <| dOps_op rfl rfl (.cons (op_fieldAddr_ref rfl rfl fo29_4 ⟨rfl, rfl⟩) (.cons (op_fieldAddr_ref rfl rfl fo29_4 ⟨rfl, rfl⟩) (.cons (op_fieldAddr_ref rfl rfl fo29_4 ⟨rfl, rfl⟩) (.nil)))) <| dOps_op rfl rfl (.cons (op_load' rfl rfl rfl ta27 rfl ⟨rfl, rfl⟩) (.cons (op_load' rfl rfl rfl ta27 rfl ⟨rfl, rfl⟩) (.cons (op_load' rfl rfl rfl ta27 rfl ⟨rfl, rfl⟩) (.nil)))) <| dOps_op rfl rfl (.cons (op_call rfl rfl rfl co139 (crow_spec c2 w2 hl2 (by omega) _)) .nil) ?_
 refine dOps_eff rfl rfl rfl rfl (op_call rfl rfl rfl co138 ((cmerged_spec (c1.zip w1) (c2.zip w2) _ _).mono fun _ _ h => ⟨h.1, h.2.trans (List.append_assoc ..)⟩)) ?_
 refine dOps_eff rfl rfl rfl rfl (op_call rfl rfl rfl co137 ((collect_spec (c1.zip w1) (c2.zip w2) (by rw [List.length_zip, List.length_zip]; omega) 140 byTicksF co140 (fun a b S => jTicks_spec a b S) _ _ _ (by omega) (by omega) (by omega) _ (get_fl [_, _, _, _] 0 rfl) (get_fl [_, _, _, _] 1 rfl) (get_fl [_, _, _, _] 2 rfl)).mono fun _ _ h => ⟨h.1.trans (congrArg (fun z => MV.lst none 3 (z.map (encE encC))) hl), h.2.trans (stJ_fl [_, _, _, _])⟩)) ?_
 refine dO rfl rfl rfl (op_assign rfl rfl ⟨rfl, rfl⟩) <| dOps_nil <| mwp_seq <| qR rfl <| qO rfl <| op_alloc' rfl zm29 rfl rfl <| qN <| mwp_seq <| mwp_seq <| qR rfl <| qM rfl rfl rfl <| qE rfl rfl Tryz.underlying151 rfl <| qM rfl rfl rfl <| qN <| mwp_block <| mwp_cellrowAt 7 3 44 1 rfl rfl (Nat.le_refl _) rfl rfl <| mwp_cellrowAt 7 4 29 5 rfl rfl (Nat.le_refl _) rfl rfl ?_
 refine mwp_loopKJ (α := Nat × List (List Tk × Val)) [(3, _), (6, _), (8, _), (9, _), (26, _), (27, _)] (fun x => [(28, .int .i64 (x.1 : Int))]) (fun x => [.cells (encS (.mk k (.mk k1 i1 :: rest))).cells, .cells (encV (.mk n1 m1 s1 c1 w1)).cells, .cells (encV (.mk n2 m2 s2 c2 w2)).cells, .cells [.int .u64 0, .int .u64 0, .lst0, .lst0, .lst0], .cells [.lst none 3 ((restE byTicksF (c1.zip w1) (c2.zip w2) (mergedC (.mk n1 m1 s1 c1 w1) (.mk n2 m2 s2 c2 w2)).length).1.map (encR encC))], .cells [.lst none 3 ((restE byTicksF (c1.zip w1) (c2.zip w2) (mergedC (.mk n1 m1 s1 c1 w1) (.mk n2 m2 s2 c2 w2)).length).2.map (encR encC))], .cells [.fn (.func 140) [] []], .cells [.int .u64 0, .int .u64 0, .lst0, .lst (some (S.length + 8)) 1 ((x.2.map fun e => encC e.1)), .lst (some (S.length + 9)) 5 ((x.2.map fun e => encV e.2))], .row 44 1 x.2.length, .row 29 5 x.2.length]) (fun x => x.1 ≤ l.length ∧ goE f ((l.take x.1).filter (fun e => !seenE l e)) = some x.2) (fun x => l.length - x.1) (⟨0, []⟩) (Nat.le_refl _) (.keep rfl (.keep rfl (.keep rfl (.keep rfl (.keep rfl (.keep rfl (.nil))))))) (.keep rfl (.nil)) (⟨by simp, rfl⟩) (rfl) ?_
 rintro ⟨i, acc⟩ ⟨hi, he⟩
 dsimp only at hi he ⊢
 have hal : acc.length ≤ 1000 := by have h1 := goE_len he; have h2 := filt_len l (fun e => !seenE l e) i; omega
 refine mwp_seq <| qR rfl <| qC rfl rfl rfl rfl rfl <| qN <| mwp_seq ?_
 refine mwp_cond_split rfl (fun h29 => ?_) (fun h29 => ?_)
 ·
  have hlt : i < l.length := by simpa using h29
  obtain ⟨e, hs⟩ : ∃ q_, l[i]? = some q_ := ⟨_, List.getElem?_eq_getElem hlt⟩
  refine mwp_skip <| mwp_seq <| mwp_block <| mwp_seq <| qR rfl <| qO rfl <| op_indexAddr rfl Tryz.underlying151 sz154 (by decide) rfl rfl rfl (get_map hs) ?_
  refine qO rfl <| op_load_sptr rfl rfl ta154 rfl <| qO rfl <| op_alloc' rfl zm154 rfl rfl <| qO rfl <| op_store' rfl rfl rfl rfl sz154 rfl (one_encE e) (Nat.le_of_ble_eq_true rfl) rfl <| qN <| mwp_seq <| mwp_seq <| qR rfl <| qM rfl rfl rfl <| qO rfl <| op_makeFunc rfl rfl rfl ?_
  refine wOps_op rfl (op_call rfl rfl rfl co141 ((eContains_spec _ l (fun o => decide (cmpF e.1 o.1 = -1)) _ [] [.ref (S.length + 10) 0] co142 (fun x hx X => causes1_spec e x (by have h1 := (hmem e (List.mem_of_getElem? hs)).1; have h2 := (hmem x hx).1; omega) _ _ (get_mid_ (k := 10) rfl))).mono ?_))
  rintro _ _ ⟨rfl, rfl⟩
  refine qN ?_
  refine mwp_cond_split rfl (fun h34 => ?_) (fun h34 => ?_)
  ·
   refine mwp_exit <| qR rfl <| qO rfl <| op_arith rfl rfl rfl rfl <| qM rfl rfl rfl <| qN ?_
   refine ⟨⟨i + 1, acc⟩, _, by dsimp only; omega, ⟨by dsimp only; omega, by dsimp only; rw [filt_snoc hs, if_neg (by simp [seenE, show (l.any fun o => decide (cmpF e.1 o.1 = -1)) = true from h34]), List.append_nil]; exact he⟩, rfl, LTo.refl _ _, (.old rfl rfl (.old rfl rfl (.old rfl rfl (.old rfl rfl (.old rfl rfl (.old rfl rfl (.nil))))))), (.new' rfl (int_succ hlt hlen) (.int _ _) (.nil))⟩
  ·
   refine mwp_skip <| mwp_seq ?_
   have hof := fun S => cof_spec k1 i1 f e (fun y hy S => hb _ ((hmem e (List.mem_of_getElem? hs)).2 y hy).1 y ((hmem e (List.mem_of_getElem? hs)).2 y hy).2 S) S
   rcases hf : ofE f e with _ | ⟨⟨n3, m3, s3, c3, w3⟩⟩ <;> rw [hf] at hof
   ·
    refine mwp_draw [9, 10] [_, S ++ [.cells (encS (.mk k (.mk k1 i1 :: rest))).cells, .cells (encV (.mk n1 m1 s1 c1 w1)).cells, .cells (encV (.mk n2 m2 s2 c2 w2)).cells, .cells [.int .u64 0, .int .u64 0, .lst0, .lst0, .lst0], .cells [.lst none 3 ((restE byTicksF (c1.zip w1) (c2.zip w2) (mergedC (.mk n1 m1 s1 c1 w1) (.mk n2 m2 s2 c2 w2)).length).1.map (encR encC))], .cells [.lst none 3 ((restE byTicksF (c1.zip w1) (c2.zip w2) (mergedC (.mk n1 m1 s1 c1 w1) (.mk n2 m2 s2 c2 w2)).length).2.map (encR encC))], .cells [.fn (.func 140) [] []], .cells [.int .u64 0, .int .u64 0, .lst0, .lst (some (S.length + 8)) 1 ((acc.map fun e => encC e.1)), .lst (some (S.length + 9)) 5 ((acc.map fun e => encV e.2))], .row 44 1 acc.length, .row 29 5 acc.length, .cells (encE encC e).cells, .cells [.int .u64 0, .int .u64 0, .lst0, .lst0, .lst0]], S ++ [.cells (encS (.mk k (.mk k1 i1 :: rest))).cells, .cells (encV (.mk n1 m1 s1 c1 w1)).cells, .cells (encV (.mk n2 m2 s2 c2 w2)).cells, .cells [.int .u64 0, .int .u64 0, .lst0, .lst0, .lst0], .cells [.lst none 3 ((restE byTicksF (c1.zip w1) (c2.zip w2) (mergedC (.mk n1 m1 s1 c1 w1) (.mk n2 m2 s2 c2 w2)).length).1.map (encR encC))], .cells [.lst none 3 ((restE byTicksF (c1.zip w1) (c2.zip w2) (mergedC (.mk n1 m1 s1 c1 w1) (.mk n2 m2 s2 c2 w2)).length).2.map (encR encC))], .cells [.fn (.func 140) [] []], .cells [.int .u64 0, .int .u64 0, .lst0, .lst (some (S.length + 8)) 1 ((acc.map fun e => encC e.1)), .lst (some (S.length + 9)) 5 ((acc.map fun e => encV e.2))], .row 44 1 acc.length, .row 29 5 acc.length, .cells (encE encC e).cells, .cells (encV noV).cells]] mo (by decide) rfl rfl rfl rfl ?_
    refine dOps_op rfl rfl (.cons (op_fieldAddr_ref rfl rfl fo37_1 ⟨rfl, rfl⟩) (.cons (op_fieldAddr_ref rfl rfl fo37_1 ⟨rfl, rfl⟩) (.nil))) <| dOps_op rfl rfl (.cons (op_load' rfl rfl rfl ta35 rfl ⟨rfl, rfl⟩) (.cons (op_load' rfl rfl rfl ta35 rfl ⟨rfl, rfl⟩) (.nil))) <| dOps_op rfl rfl (.cons (op_indexAddr rfl Tryz.underlying35 sz37 (by decide) rfl rfl rfl (show _ = some (encS (.mk k1 i1)) from rfl) ⟨rfl, rfl⟩) (.cons (op_indexAddr rfl Tryz.underlying35 sz37 (by decide) rfl rfl rfl (show _ = some (encS (.mk k1 i1)) from rfl) ⟨rfl, rfl⟩) (.nil))) ?_
    refine dOps_op rfl rfl (.cons (op_load_sptr rfl rfl ta37 rfl ⟨rfl, rfl⟩) (.cons (op_load_sptr rfl rfl ta37 rfl ⟨rfl, rfl⟩) (.nil))) <| dOps_op rfl rfl (.cons (op_load' rfl rfl rfl ta154 rfl ⟨rfl, rfl⟩) (.cons (op_load' rfl rfl rfl ta154 rfl ⟨rfl, rfl⟩) (.nil))) <| dOps_op rfl rfl (.cons (op_call rfl rfl rfl co144 (hof _)) (.cons (op_call rfl rfl rfl co144 (hof _)) (.nil))) <| dOps_op rfl rfl (.cons (op_move rfl rfl ⟨rfl, rfl⟩) (.cons (op_move rfl rfl ⟨rfl, rfl⟩) (.nil))) <| dOps_op rfl rfl (.cons (op_extract rfl rfl rfl ⟨rfl, rfl⟩) (.cons (op_extract rfl rfl rfl ⟨rfl, rfl⟩) (.nil))) <| dOps_op rfl rfl (.cons (op_extract rfl rfl rfl ⟨rfl, rfl⟩) (.cons (op_extract rfl rfl rfl ⟨rfl, rfl⟩) (.cons (op_extract rfl rfl rfl ⟨rfl, rfl⟩) (.nil)))) <| dOps_eff rfl rfl rfl rfl (op_alloc' rfl zm29 rfl rfl ⟨rfl, rfl⟩) <| dOps_eff rfl rfl rfl rfl (op_store' rfl rfl rfl rfl sz29 rfl rfl (Nat.le_of_ble_eq_true rfl) rfl ⟨rfl, rfl⟩) <| dO rfl rfl rfl (op_assign rfl rfl ⟨rfl, rfl⟩) <| dOps_nil <| mwp_seq <| mwp_seq <| qR rfl <| qM rfl rfl rfl <| qO rfl <| op_ifnil rfl Tryz.underlying32 rfl rfl (.inr ⟨rfl, rfl⟩) <| qN <| mwp_cond_t rfl (rfl) <| mwp_seq <| qR rfl <| qO rfl <| op_build rfl Tryz.underlying29 zm29 .nil (by kernel_rfl) ?_
    refine qM rfl rfl rfl <| qO rfl <| op_store' rfl rfl rfl rfl sz29 rfl rfl (Nat.le_of_ble_eq_true rfl) rfl <| qA rfl rfl rfl <| qN <| mwp_ret ?_
    exact ret_cell_tmp (.inr rfl) Tryz.results102 rfl rfl ta29 rfl (.agg (.cons (.refl _) (.cons (.refl _) (.cons (.nil 1) (.cons (.nil 1) (.cons (.nil 5) .nil)))))) (cl_encV _ (noV)) rfl (.refl _) (.iface _ _ (.int _ _)) ⟨by rw [show causesF f (.mk n1 m1 s1 c1 w1) (.mk n2 m2 s2 c2 w2) = none from by rw [causesF, hl, goE_bad (List.mem_filter.2 ⟨List.mem_of_getElem? hs, by simpa [seenE] using h34⟩) hf]; rfl]; rfl, rfl⟩
   ·
    refine mwp_draw [9, 10] [_, S ++ [.cells (encS (.mk k (.mk k1 i1 :: rest))).cells, .cells (encV (.mk n1 m1 s1 c1 w1)).cells, .cells (encV (.mk n2 m2 s2 c2 w2)).cells, .cells [.int .u64 0, .int .u64 0, .lst0, .lst0, .lst0], .cells [.lst none 3 ((restE byTicksF (c1.zip w1) (c2.zip w2) (mergedC (.mk n1 m1 s1 c1 w1) (.mk n2 m2 s2 c2 w2)).length).1.map (encR encC))], .cells [.lst none 3 ((restE byTicksF (c1.zip w1) (c2.zip w2) (mergedC (.mk n1 m1 s1 c1 w1) (.mk n2 m2 s2 c2 w2)).length).2.map (encR encC))], .cells [.fn (.func 140) [] []], .cells [.int .u64 0, .int .u64 0, .lst0, .lst (some (S.length + 8)) 1 ((acc.map fun e => encC e.1)), .lst (some (S.length + 9)) 5 ((acc.map fun e => encV e.2))], .row 44 1 acc.length, .row 29 5 acc.length, .cells (encE encC e).cells, .cells [.int .u64 0, .int .u64 0, .lst0, .lst0, .lst0]], S ++ [.cells (encS (.mk k (.mk k1 i1 :: rest))).cells, .cells (encV (.mk n1 m1 s1 c1 w1)).cells, .cells (encV (.mk n2 m2 s2 c2 w2)).cells, .cells [.int .u64 0, .int .u64 0, .lst0, .lst0, .lst0], .cells [.lst none 3 ((restE byTicksF (c1.zip w1) (c2.zip w2) (mergedC (.mk n1 m1 s1 c1 w1) (.mk n2 m2 s2 c2 w2)).length).1.map (encR encC))], .cells [.lst none 3 ((restE byTicksF (c1.zip w1) (c2.zip w2) (mergedC (.mk n1 m1 s1 c1 w1) (.mk n2 m2 s2 c2 w2)).length).2.map (encR encC))], .cells [.fn (.func 140) [] []], .cells [.int .u64 0, .int .u64 0, .lst0, .lst (some (S.length + 8)) 1 ((acc.map fun e => encC e.1)), .lst (some (S.length + 9)) 5 ((acc.map fun e => encV e.2))], .row 44 1 acc.length, .row 29 5 acc.length, .cells (encE encC e).cells, .cells (encV (.mk n3 m3 s3 c3 w3)).cells]] mo (by decide) rfl rfl rfl rfl ?_
    refine dOps_op rfl rfl (.cons (op_fieldAddr_ref rfl rfl fo37_1 ⟨rfl, rfl⟩) (.cons (op_fieldAddr_ref rfl rfl fo37_1 ⟨rfl, rfl⟩) (.nil))) <| dOps_op rfl rfl (.cons (op_load' rfl rfl rfl ta35 rfl ⟨rfl, rfl⟩) (.cons (op_load' rfl rfl rfl ta35 rfl ⟨rfl, rfl⟩) (.nil))) <| dOps_op rfl rfl (.cons (op_indexAddr rfl Tryz.underlying35 sz37 (by decide) rfl rfl rfl (show _ = some (encS (.mk k1 i1)) from rfl) ⟨rfl, rfl⟩) (.cons (op_indexAddr rfl Tryz.underlying35 sz37 (by decide) rfl rfl rfl (show _ = some (encS (.mk k1 i1)) from rfl) ⟨rfl, rfl⟩) (.nil))) ?_
    refine dOps_op rfl rfl (.cons (op_load_sptr rfl rfl ta37 rfl ⟨rfl, rfl⟩) (.cons (op_load_sptr rfl rfl ta37 rfl ⟨rfl, rfl⟩) (.nil))) <| dOps_op rfl rfl (.cons (op_load' rfl rfl rfl ta154 rfl ⟨rfl, rfl⟩) (.cons (op_load' rfl rfl rfl ta154 rfl ⟨rfl, rfl⟩) (.nil))) <| dOps_op rfl rfl (.cons (op_call rfl rfl rfl co144 (hof _)) (.cons (op_call rfl rfl rfl co144 (hof _)) (.nil))) <| dOps_op rfl rfl (.cons (op_move rfl rfl ⟨rfl, rfl⟩) (.cons (op_move rfl rfl ⟨rfl, rfl⟩) (.nil))) <| dOps_op rfl rfl (.cons (op_extract rfl rfl rfl ⟨rfl, rfl⟩) (.cons (op_extract rfl rfl rfl ⟨rfl, rfl⟩) (.nil))) <| dOps_op rfl rfl (.cons (op_extract rfl rfl rfl ⟨rfl, rfl⟩) (.cons (op_extract rfl rfl rfl ⟨rfl, rfl⟩) (.cons (op_extract rfl rfl rfl ⟨rfl, rfl⟩) (.nil)))) <| dOps_eff rfl rfl rfl rfl (op_alloc' rfl zm29 rfl rfl ⟨rfl, rfl⟩) <| dOps_eff rfl rfl rfl rfl (op_store' rfl rfl rfl rfl sz29 rfl rfl (Nat.le_of_ble_eq_true rfl) rfl ⟨rfl, rfl⟩) <| dO rfl rfl rfl (op_assign rfl rfl ⟨rfl, rfl⟩) <| dOps_nil <| mwp_seq <| mwp_seq <| qR rfl <| qM rfl rfl rfl <| qO rfl <| op_if0 rfl Tryz.underlying32 rfl rfl (.inr ⟨rfl, rfl⟩) <| qN <| mwp_cond_f rfl (rfl) <| mwp_skip ?_
    refine mwp_draw [5, 10, 12, 14] [_, S ++ [.cells (encS (.mk k (.mk k1 i1 :: rest))).cells, .cells (encV (.mk n1 m1 s1 c1 w1)).cells, .cells (encV (.mk n2 m2 s2 c2 w2)).cells, .cells [.int .u64 0, .int .u64 0, .lst0, .lst0, .lst0], .cells [.lst none 3 ((restE byTicksF (c1.zip w1) (c2.zip w2) (mergedC (.mk n1 m1 s1 c1 w1) (.mk n2 m2 s2 c2 w2)).length).1.map (encR encC))], .cells [.lst none 3 ((restE byTicksF (c1.zip w1) (c2.zip w2) (mergedC (.mk n1 m1 s1 c1 w1) (.mk n2 m2 s2 c2 w2)).length).2.map (encR encC))], .cells [.fn (.func 140) [] []], .cells [.int .u64 0, .int .u64 0, .lst0, .lst (some (S.length + 8)) 1 ((acc.map fun e => encC e.1)), .lst (some (S.length + 9)) 5 ((acc.map fun e => encV e.2))], .row 44 1 (acc.length + 1), .row 29 5 acc.length, .cells (encE encC e).cells, .cells (encV (.mk n3 m3 s3 c3 w3)).cells], S ++ [.cells (encS (.mk k (.mk k1 i1 :: rest))).cells, .cells (encV (.mk n1 m1 s1 c1 w1)).cells, .cells (encV (.mk n2 m2 s2 c2 w2)).cells, .cells [.int .u64 0, .int .u64 0, .lst0, .lst0, .lst0], .cells [.lst none 3 ((restE byTicksF (c1.zip w1) (c2.zip w2) (mergedC (.mk n1 m1 s1 c1 w1) (.mk n2 m2 s2 c2 w2)).length).1.map (encR encC))], .cells [.lst none 3 ((restE byTicksF (c1.zip w1) (c2.zip w2) (mergedC (.mk n1 m1 s1 c1 w1) (.mk n2 m2 s2 c2 w2)).length).2.map (encR encC))], .cells [.fn (.func 140) [] []], .cells [.int .u64 0, .int .u64 0, .lst0, .lst (some (S.length + 8)) 1 ((acc.map fun e => encC e.1)), .lst (some (S.length + 9)) 5 ((acc.map fun e => encV e.2))], .row 44 1 (acc.length + 1), .row 29 5 (acc.length + 1), .cells (encE encC e).cells, .cells (encV (.mk n3 m3 s3 c3 w3)).cells], S ++ [.cells (encS (.mk k (.mk k1 i1 :: rest))).cells, .cells (encV (.mk n1 m1 s1 c1 w1)).cells, .cells (encV (.mk n2 m2 s2 c2 w2)).cells, .cells [.int .u64 0, .int .u64 0, .lst0, .lst0, .lst0], .cells [.lst none 3 ((restE byTicksF (c1.zip w1) (c2.zip w2) (mergedC (.mk n1 m1 s1 c1 w1) (.mk n2 m2 s2 c2 w2)).length).1.map (encR encC))], .cells [.lst none 3 ((restE byTicksF (c1.zip w1) (c2.zip w2) (mergedC (.mk n1 m1 s1 c1 w1) (.mk n2 m2 s2 c2 w2)).length).2.map (encR encC))], .cells [.fn (.func 140) [] []], .cells [.int .u64 0, .int .u64 0, .lst0, .lst (some (S.length + 8)) 1 (((acc.map fun e => encC e.1) ++ [encC e.1])), .lst (some (S.length + 9)) 5 ((acc.map fun e => encV e.2))], .row 44 1 (acc.length + 1), .row 29 5 (acc.length + 1), .cells (encE encC e).cells, .cells (encV (.mk n3 m3 s3 c3 w3)).cells], S ++ [.cells (encS (.mk k (.mk k1 i1 :: rest))).cells, .cells (encV (.mk n1 m1 s1 c1 w1)).cells, .cells (encV (.mk n2 m2 s2 c2 w2)).cells, .cells [.int .u64 0, .int .u64 0, .lst0, .lst0, .lst0], .cells [.lst none 3 ((restE byTicksF (c1.zip w1) (c2.zip w2) (mergedC (.mk n1 m1 s1 c1 w1) (.mk n2 m2 s2 c2 w2)).length).1.map (encR encC))], .cells [.lst none 3 ((restE byTicksF (c1.zip w1) (c2.zip w2) (mergedC (.mk n1 m1 s1 c1 w1) (.mk n2 m2 s2 c2 w2)).length).2.map (encR encC))], .cells [.fn (.func 140) [] []], .cells [.int .u64 0, .int .u64 0, .lst0, .lst (some (S.length + 8)) 1 (((acc.map fun e => encC e.1) ++ [encC e.1])), .lst (some (S.length + 9)) 5 (((acc.map fun e => encV e.2) ++ [encV (.mk n3 m3 s3 c3 w3)]))], .row 44 1 (acc.length + 1), .row 29 5 (acc.length + 1), .cells (encE encC e).cells, .cells (encV (.mk n3 m3 s3 c3 w3)).cells]] mo (by decide) rfl rfl rfl rfl ?_
    refine dOps_op rfl rfl (.cons (op_fieldAddr_ref rfl rfl fo29_3 ⟨rfl, rfl⟩) (.cons (op_fieldAddr_ref rfl rfl fo29_3 ⟨rfl, rfl⟩) (.cons (op_fieldAddr_ref rfl rfl fo29_3 ⟨rfl, rfl⟩) (.nil)))) <| dO rfl rfl rfl (op_load' rfl rfl rfl ta26 rfl ⟨rfl, rfl⟩) <| dOps_op rfl rfl (.cons (op_fieldAddr_ref rfl rfl fo154_0 ⟨rfl, rfl⟩) (.cons (op_fieldAddr_ref rfl rfl fo154_0 ⟨rfl, rfl⟩) (.cons (op_fieldAddr_ref rfl rfl fo154_0 ⟨rfl, rfl⟩) (.nil)))) <| dOps_op rfl rfl (.cons (op_load' rfl rfl rfl ta44 rfl ⟨rfl, rfl⟩) (.cons (op_load' rfl rfl rfl ta44 rfl ⟨rfl, rfl⟩) (.cons (op_load' rfl rfl rfl ta44 rfl ⟨rfl, rfl⟩) (.nil)))) <| dO rfl rfl rfl (op_buildSlice rfl Tryz.underlying26 el44 rfl rfl (by decide) (by decide) rfl rfl ⟨rfl, rfl⟩) ?_
    refine dOps_eff rfl rfl rfl rfl (op_append' rfl Tryz.underlying26 el44 rfl rfl rfl (by simp) (by simp; omega) (by simp; omega) rfl ⟨rfl, rfl⟩) ?_
    refine dOps_op rfl rfl (.cons (op_fieldAddr_ref rfl rfl fo29_4 ⟨rfl, rfl⟩) (.cons (op_fieldAddr_ref rfl rfl fo29_4 ⟨rfl, rfl⟩) (.cons (op_fieldAddr_ref rfl rfl fo29_4 ⟨rfl, rfl⟩) (.nil)))) <| dOps_op rfl rfl (.cons (op_load' rfl rfl rfl ta27 rfl ⟨rfl, rfl⟩) (.cons (op_load' rfl rfl rfl ta27 rfl ⟨rfl, rfl⟩) (.nil))) <| dOps_op rfl rfl (.cons (op_load' rfl rfl rfl ta29 rfl ⟨rfl, rfl⟩) (.cons (op_load' rfl rfl rfl ta29 rfl ⟨rfl, rfl⟩) (.cons (op_load' rfl rfl rfl ta29 rfl ⟨rfl, rfl⟩) (.cons (op_load' rfl rfl rfl ta29 rfl ⟨rfl, rfl⟩) (.nil))))) <| dOps_op rfl rfl (.cons (op_buildSlice rfl Tryz.underlying27 el29 rfl rfl (by decide) (by decide) rfl rfl ⟨rfl, rfl⟩) (.cons (op_buildSlice rfl Tryz.underlying27 el29 rfl rfl (by decide) (by decide) rfl rfl ⟨rfl, rfl⟩) (.nil))) ?_
    refine dOps_eff rfl rfl rfl rfl (op_append' rfl Tryz.underlying27 el29 rfl rfl rfl (by simp) (by simp; omega) (by simp; omega) rfl ⟨rfl, rfl⟩) ?_
    refine dOps_op rfl rfl (.cons (op_fieldAddr_ref rfl rfl fo29_3 ⟨rfl, rfl⟩) (.cons (op_fieldAddr_ref rfl rfl fo29_3 ⟨rfl, rfl⟩) (.nil))) <| dOps_eff rfl rfl rfl rfl (op_store' rfl rfl rfl rfl sz26 rfl rfl (Nat.le_of_ble_eq_true rfl) rfl ⟨rfl, rfl⟩) <| dO rfl rfl rfl (op_fieldAddr_ref rfl rfl fo29_4 ⟨rfl, rfl⟩) <| dOps_eff rfl rfl rfl rfl (op_store' rfl rfl rfl rfl sz27 rfl rfl (Nat.le_of_ble_eq_true rfl) rfl ⟨rfl, rfl⟩) <| dOps_nil <| qR rfl <| qO rfl <| op_arith rfl rfl rfl rfl <| qM rfl rfl rfl <| qN ?_
    refine ⟨⟨i + 1, acc ++ [(e.1, .mk n3 m3 s3 c3 w3)]⟩, _, by dsimp only; omega, ⟨by dsimp only; omega, by dsimp only; rw [filt_snoc hs, if_pos (by simpa [seenE] using h34)]; exact goE_snoc he hf⟩, by simp only [List.map_append, List.length_append]; rfl, .same (.same (.same (.same (.same (.same (.same (.new (cl_outC (by simp) (by simp)) (.new trivial (.new trivial .nil))))))))), (.old rfl rfl (.old rfl rfl (.old rfl rfl (.old rfl rfl (.old rfl rfl (.old rfl rfl (.nil))))))), (.new' rfl (int_succ hlt hlen) (.int _ _) (.nil))⟩
 ·
  have hge : i = l.length := by simp at h29; omega
  refine mwp_exit <| mwp_seq <| qR rfl <| qL rfl rfl rfl rfl ta29 rfl <| qO rfl <| op_store' rfl rfl rfl rfl sz29 rfl rfl (Nat.le_of_ble_eq_true rfl) rfl <| qA rfl rfl rfl <| qN <| mwp_ret ?_
  exact ret_cell_tmp (.inr rfl) Tryz.results102 rfl rfl ta29 rfl (.agg (.cons (.refl _) (.cons (.refl _) (.cons (.nil 1) (.cons (.trans (.view _ _ _) (.of_eq (by rw [List.map_map]; rfl))) (.cons (.trans (.view _ _ _) (.of_eq (by rw [encVs_eq, List.map_map]; rfl))) .nil)))))) (cl_encV _ (.mk 0 0 [] (acc.map (·.1)) (acc.map (·.2)))) rfl (.refl _) (.iface0) ⟨by rw [show causesF f (.mk n1 m1 s1 c1 w1) (.mk n2 m2 s2 c2 w2) = some _ from by rw [causesF, hl]; rw [hge, List.take_length] at he; rw [he]; rfl]; rfl, rfl⟩
end Go.Proofs.YtlooahbfpmigfaaGreat
end
