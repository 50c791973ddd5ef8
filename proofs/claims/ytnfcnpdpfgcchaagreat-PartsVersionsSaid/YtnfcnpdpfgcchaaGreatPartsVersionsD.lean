/-
  Texts on which the proof of PartsVersions leans: part 4.
-/
import Derived.Test.YtnfcnpdpfgcchaaGreatPartsVersionsC
import Derived.Lib.Bytealg
import Derived.Laws.Externs
section
set_option linter.unusedVariables false
set_option linter.unusedSimpArgs false
set_option maxRecDepth 20000
set_option maxHeartbeats 400000
namespace Go.Proofs.YtnfcnpdpfgcchaaGreat
open Go Go.MV
theorem gt_nil {α β : Type} {f : α → β} : intCmp .gtr ((((([] : List α).map f).length : Nat)) : Int) 0 = some false := by simp [intCmp]
theorem gt_cons {α β : Type} {f : α → β} {x : α} {l : List α} : intCmp .gtr (((((x :: l).map f).length : Nat)) : Int) 0 = some true := by simp [intCmp]
theorem eq_nil {α β : Type} {f : α → β} : intCmp .eql ((((([] : List α).map f).length : Nat)) : Int) 0 = some true := by simp [intCmp]
theorem eq_cons {α β : Type} {f : α → β} {x : α} {l : List α} : intCmp .eql (((((x :: l).map f).length : Nat)) : Int) 0 = some false := by simp [intCmp]; omega
theorem set_self_ {S : MS} {id : Nat} {o : MObj} (h : S[id]? = some o) : S.set id o = S := by
 obtain ⟨hlt, e⟩ := List.getElem?_eq_some_iff.1 h
 rw [← e]
 exact List.set_getElem_self hlt
theorem get_ne {S : MS} {i k : Nat} {o p : MObj} (hne : i ≠ k) (h : S[k]? = some p) : (S.set i o)[k]? = some p := by
 rw [List.getElem?_set_ne hne]; exact h
theorem drop1 {α β : Type} {f : α → β} {x : α} {l : List α} : (((x :: l).map f).drop 1).take (((x :: l).map f).length - 1) = l.map f := by
 rw [List.map_cons, List.drop_succ_cons, List.drop_zero]
 exact List.take_of_length_le (by simp)
theorem get_last2 {A A' J : MS} {c : MObj} (h : A'.length = A.length) : ((A' ++ J) ++ [c])[(A ++ J).length]? = some c := by
 have e : (A ++ J).length = (A' ++ J).length := by simp [h]
 rw [e]
 exact get_mid
theorem cmerged_iter (cmp : List Tk → List Tk → Int) (kc : FuncId) (hcc : CallOk Tryz.prog kc) (hcmp : ∀ (k1 k2 : List Tk) (S : MS), MCalls Tryz.prog kc ([] ++ [encC k1, encC k2] ++ []) S fun v σ' => v = .int .i64 (cmp k1 k2) ∧ σ' = S) (a b : List (REnt (List Tk))) (ida idb idc l0 : Nat) (hab : ida ≠ idb) :
  IterOk2 Tryz.prog 143 [] [.ref ida 0, .ref idb 0, .ref idc 0] ((mergeE cmp a b).map fun e => [encE encC e]) (fun σ => σ.length = l0 ∧ ClS σ) (fun j σ τ => σ[ida]? = some (.cells [.lst none 3 ((restE cmp a b j).1.map (encR encC))]) ∧ σ[idb]? = some (.cells [.lst none 3 ((restE cmp a b j).2.map (encR encC))]) ∧ σ[idc]? = some (.cells [.fn (.func kc) [] []]) ∧ τ = (σ.set ida (.cells [.lst none 3 ((restE cmp a b (j + 1)).1.map (encR encC))])).set idb (.cells [.lst none 3 ((restE cmp a b (j + 1)).2.map (encR encC))])) := by
 refine iterOk2_of fun id T U m hok hoku hm hyt hyf => ?_
 have hml : ((mergeE cmp a b).map fun e => [encE encC e]).length = (mergeE cmp a b).length := List.length_map ..
 refine mcalls_body Tryz.func143 rfl Tryz.ntmps143 (Nat.le_of_ble_eq_true rfl) ?_
 rw [List.append_nil]
 show mwp _ _ _ _ _ _ _ (([] : MS) ++ T 0)
 refine mwp_block ?_
 refine mwp_loopK (α := Nat × MS) [(0, _), (1, _), (2, _), (3, _)] (fun x => []) (fun x => T x.1 ++ x.2) (fun x => x.1 ≤ m ∧ mergeE cmp (restE cmp a b x.1).1 (restE cmp a b x.1).2 = (mergeE cmp a b).drop x.1) (fun x => m + 1 - x.1) (⟨0, []⟩) (.keep rfl (.keep rfl (.keep rfl (.keep rfl (.nil))))) (.nil) (⟨by simp, rfl⟩) (by rw [List.append_nil]) ?_
 rintro ⟨j, J⟩ ⟨hj, he⟩
 dsimp only at hj he ⊢
 show mwp _ _ _ _ _ _ _ (T j ++ J)
 obtain ⟨hA, hB, hC, hU⟩ := hoku j hj
 obtain ⟨⟨ra, rb⟩, hR⟩ : ∃ p, restE cmp a b j = p := ⟨_, rfl⟩
 rw [restE, hR] at hU
 rw [hR] at hA hB he
 dsimp only at hA hB he
 have hlT : (U j).length = (T j).length := by rw [hU]; simp
 refine mwp_seq <| mwp_seq ?_
 rcases ra with _ | ⟨x, ra⟩ <;> rcases rb with _ | ⟨y, rb⟩
 ·
  rw [mergeE] at he
  have hdl := drop_nil_len he
  have hjm : j = m := by omega
  refine qR rfl <| qO rfl <| op_load_ref rfl rfl (by first | exact get_app (get_app hA) | exact get_app hA) ta146 rfl ?_
  refine qE rfl rfl Tryz.underlying146 rfl <| qC rfl rfl rfl rfl (gt_nil) <| qM rfl rfl rfl <| qO rfl <| op_load_ref rfl rfl (by first | exact get_app (get_app hB) | exact get_app hB | exact get_app (get_app (get_ne hab hB))) ta146 rfl ?_
  refine qE rfl rfl Tryz.underlying146 rfl <| qC rfl rfl rfl rfl (gt_nil) <| qP rfl rfl rfl rfl <| qN <| mwp_cond_f rfl (rfl) <| mwp_exit ?_
  exact ret_noneS (S' := T j) (by simp) Tryz.results143 (by rw [(hok _).1, (hok _).1]; exact Nat.le_refl _) (hok _).2 ⟨rfl, by rw [hjm, if_neg (by omega)]⟩
 ·
  refine qR rfl <| qO rfl <| op_load_ref rfl rfl (by first | exact get_app (get_app hA) | exact get_app hA) ta146 rfl ?_
  refine qE rfl rfl Tryz.underlying146 rfl <| qC rfl rfl rfl rfl (gt_nil) <| qM rfl rfl rfl <| qO rfl <| op_load_ref rfl rfl (by first | exact get_app (get_app hB) | exact get_app hB | exact get_app (get_app (get_ne hab hB))) ta146 rfl ?_
  refine qE rfl rfl Tryz.underlying146 rfl <| qC rfl rfl rfl rfl (gt_cons) <| qP rfl rfl rfl rfl <| qN <| mwp_cond_t rfl (rfl) <| mwp_skip <| mwp_block <| mwp_seq <| qR rfl <| qO rfl <| op_alloc rfl zm149 <| qN <| mwp_seq <| mwp_block <| mwp_seq ?_
  refine mwp_draw [] [_] mo (by decide) rfl rfl rfl rfl ?_
  refine dO rfl rfl rfl (op_load_ref rfl rfl (by first | exact get_app (get_app hB) | exact get_app hB | exact get_app (get_app (get_ne hab hB))) ta146 rfl ⟨rfl, rfl⟩) ?_
  refine dO rfl rfl rfl (op_len_lst rfl Tryz.underlying146 rfl ⟨rfl, rfl⟩) <| dO rfl rfl rfl (op_cmp rfl rfl rfl (eq_cons) ⟨rfl, rfl⟩) <| dO rfl rfl rfl (op_move rfl rfl ⟨rfl, rfl⟩) <| dO rfl rfl rfl (op_load_ref rfl rfl (by first | exact get_app (get_app hA) | exact get_app hA) ta146 rfl ⟨rfl, rfl⟩) ?_
  refine dO rfl rfl rfl (op_len_lst rfl Tryz.underlying146 rfl ⟨rfl, rfl⟩) <| dO rfl rfl rfl (op_cmp rfl rfl rfl (gt_nil) ⟨rfl, rfl⟩) <| dO rfl rfl rfl (op_move rfl rfl ⟨rfl, rfl⟩) <| dS rfl rfl <| dS rfl rfl <| dS rfl rfl <| dS rfl rfl <| dS rfl rfl <| dS rfl rfl <| dS rfl rfl <| dS rfl rfl <| dS rfl rfl <| dS rfl rfl <| dS rfl rfl <| dO rfl rfl rfl (op_pick rfl rfl rfl ⟨rfl, rfl⟩) <| dO rfl rfl rfl (op_pick rfl rfl rfl ⟨rfl, rfl⟩) <| dO rfl rfl rfl (op_assign rfl rfl ⟨rfl, rfl⟩) <| dOps_nil <| mwp_cond_f rfl (rfl) <| mwp_seq ?_
  refine mwp_draw [] [_] mo (by decide) rfl rfl rfl rfl ?_
  refine dO rfl rfl rfl (op_load_ref rfl rfl (by first | exact get_app (get_app hA) | exact get_app hA) ta146 rfl ⟨rfl, rfl⟩) ?_
  refine dO rfl rfl rfl (op_len_lst rfl Tryz.underlying146 rfl ⟨rfl, rfl⟩) <| dO rfl rfl rfl (op_cmp rfl rfl rfl (eq_nil) ⟨rfl, rfl⟩) <| dO rfl rfl rfl (op_move rfl rfl ⟨rfl, rfl⟩) <| dS rfl rfl <| dS rfl rfl <| dS rfl rfl <| dS rfl rfl <| dS rfl rfl <| dS rfl rfl <| dS rfl rfl <| dS rfl rfl <| dS rfl rfl <| dS rfl rfl <| dS rfl rfl <| dO rfl rfl rfl (op_pick rfl rfl rfl ⟨rfl, rfl⟩) <| dO rfl rfl rfl (op_assign rfl rfl ⟨rfl, rfl⟩) <| dOps_nil <| mwp_cond_t rfl (rfl) ?_
  have hst : stepE cmp ([], y :: rb) = ([], rb) := by rw [stepE]
  rw [mergeE] at he
  obtain ⟨hy, hnx⟩ := drop_cons_get he
  replace hy : ((mergeE cmp a b).map fun e => [encE encC e])[j]? = some [encE encC (y.1, y.2, none)] := by rw [List.getElem?_map, hy]; rfl
  have hjl := (List.getElem?_eq_some_iff.1 hy).1
  have hUB : U j = (T j).set idb (.cells [.lst none 3 (rb.map (encR encC))]) := by rw [hU, hst, set_self_ hA]
  refine mwp_draw [5, 6] [_, (T j ++ J) ++ [.cells [encC y.1, .sptr (encV y.2).cells, .ptr0]], (U j ++ J) ++ [.cells [encC y.1, .sptr (encV y.2).cells, .ptr0]]] mo (by decide) rfl rfl rfl rfl ?_
  refine dO rfl rfl rfl (op_load_ref rfl rfl (by first | exact get_app (get_app hB) | exact get_app hB | exact get_app (get_app (get_ne hab hB))) ta146 rfl ⟨rfl, rfl⟩) ?_
  refine dO rfl rfl rfl (op_indexAddr rfl Tryz.underlying146 sz149 (by decide) rfl rfl rfl (show _ = some (encR encC y) from rfl) ⟨rfl, rfl⟩) ?_
  refine dO rfl rfl rfl (op_load_sptr rfl rfl ta149 rfl ⟨rfl, rfl⟩) <| dOps_op rfl rfl (.cons (op_load_ref rfl rfl (by first | exact get_app (get_app hB) | exact get_app hB | exact get_app (get_app (get_ne hab hB))) ta146 rfl ⟨rfl, rfl⟩) (.cons (op_load_ref rfl rfl (by first | exact get_app (get_app hB) | exact get_app hB | exact get_app (get_app (get_ne hab hB))) ta146 rfl ⟨rfl, rfl⟩) (.nil))) ?_
  refine dOps_op rfl rfl (.cons (op_slice rfl Tryz.underlying146 sz149 rfl (.some rfl rfl) .none (by simp) (by simp) ⟨rfl, rfl⟩) (.cons (op_slice rfl Tryz.underlying146 sz149 rfl (.some rfl rfl) .none (by simp) (by simp) ⟨rfl, rfl⟩) (.nil))) ?_
  rw [drop1]
  refine dOps_eff rfl rfl rfl rfl (op_store_last rfl rfl rfl sz149 rfl rfl (Nat.le_of_ble_eq_true rfl) ⟨rfl, rfl⟩) <| dOps_eff rfl rfl rfl rfl (op_store_box rfl rfl rfl (by first | exact hB | exact get_ne hab hB) sz146 rfl rfl (Nat.le_of_ble_eq_true rfl) ⟨rfl, by rw [hUB]; rfl⟩) ?_
  refine dOps_nil <| mwp_seq ?_
  rcases Nat.lt_or_eq_of_le hj with hjm | hjm
  ·
   refine qR rfl <| qM rfl rfl rfl <| qO rfl <| op_load_ref rfl rfl (get_last2 hlT) ta149 rfl <| qO rfl <| (hyt j _ hjm hy).at2 rfl rfl rfl <| qO rfl <| op_not rfl rfl <| qN <| mwp_cond_f rfl (rfl) <| mwp_skip ?_
   refine ⟨⟨j + 1, J ++ [_]⟩, by dsimp only; omega, ⟨by dsimp only; omega, by dsimp only; rw [restE, hR, hst]; exact hnx⟩, List.append_assoc .., (.keep rfl (.keep rfl (.keep rfl (.keep rfl (.nil))))), (.nil)⟩
  ·
   refine qR rfl <| qM rfl rfl rfl <| qO rfl <| op_load_ref rfl rfl (get_last2 hlT) ta149 rfl <| qO rfl <| (hyf j _ hjm hy).at2 rfl rfl rfl <| qO rfl <| op_not rfl rfl <| qN <| mwp_cond_t rfl (rfl) <| mwp_ret ?_
   rw [List.append_assoc]
   exact ret_noneS (S' := T (j + 1)) (by simp) Tryz.results143 (by rw [(hok _).1, (hok _).1]; exact Nat.le_refl _) (hok _).2 ⟨rfl, by rw [hjm, if_pos (by omega)]⟩
 ·
  refine qR rfl <| qO rfl <| op_load_ref rfl rfl (by first | exact get_app (get_app hA) | exact get_app hA) ta146 rfl ?_
  refine qE rfl rfl Tryz.underlying146 rfl <| qC rfl rfl rfl rfl (gt_cons) <| qM rfl rfl rfl <| qS rfl <| qS rfl <| qS rfl <| qP rfl rfl rfl rfl <| qN <| mwp_cond_t rfl (rfl) <| mwp_skip <| mwp_block <| mwp_seq <| qR rfl <| qO rfl <| op_alloc rfl zm149 <| qN <| mwp_seq <| mwp_block <| mwp_seq ?_
  refine mwp_draw [] [_] mo (by decide) rfl rfl rfl rfl ?_
  refine dO rfl rfl rfl (op_load_ref rfl rfl (by first | exact get_app (get_app hB) | exact get_app hB | exact get_app (get_app (get_ne hab hB))) ta146 rfl ⟨rfl, rfl⟩) ?_
  refine dO rfl rfl rfl (op_len_lst rfl Tryz.underlying146 rfl ⟨rfl, rfl⟩) <| dO rfl rfl rfl (op_cmp rfl rfl rfl (eq_nil) ⟨rfl, rfl⟩) <| dO rfl rfl rfl (op_move rfl rfl ⟨rfl, rfl⟩) <| dS rfl rfl <| dS rfl rfl <| dS rfl rfl <| dS rfl rfl <| dS rfl rfl <| dS rfl rfl <| dS rfl rfl <| dS rfl rfl <| dS rfl rfl <| dS rfl rfl <| dS rfl rfl <| dS rfl rfl <| dS rfl rfl <| dS rfl rfl <| dS rfl rfl <| dS rfl rfl <| dO rfl rfl rfl (op_pick rfl rfl rfl ⟨rfl, rfl⟩) <| dO rfl rfl rfl (op_assign rfl rfl ⟨rfl, rfl⟩) <| dOps_nil <| mwp_cond_t rfl (rfl) ?_
  have hst : stepE cmp (x :: ra, []) = (ra, []) := by rw [stepE]
  rw [mergeE] at he
  obtain ⟨hy, hnx⟩ := drop_cons_get he
  replace hy : ((mergeE cmp a b).map fun e => [encE encC e])[j]? = some [encE encC (x.1, x.2, none)] := by rw [List.getElem?_map, hy]; rfl
  have hjl := (List.getElem?_eq_some_iff.1 hy).1
  have hUA : U j = (T j).set ida (.cells [.lst none 3 (ra.map (encR encC))]) := by rw [hU, hst]; exact set_self_ (get_ne hab hB)
  refine mwp_draw [5, 6] [_, (T j ++ J) ++ [.cells [encC x.1, .sptr (encV x.2).cells, .ptr0]], (U j ++ J) ++ [.cells [encC x.1, .sptr (encV x.2).cells, .ptr0]]] mo (by decide) rfl rfl rfl rfl ?_
  refine dO rfl rfl rfl (op_load_ref rfl rfl (by first | exact get_app (get_app hA) | exact get_app hA) ta146 rfl ⟨rfl, rfl⟩) ?_
  refine dO rfl rfl rfl (op_indexAddr rfl Tryz.underlying146 sz149 (by decide) rfl rfl rfl (show _ = some (encR encC x) from rfl) ⟨rfl, rfl⟩) ?_
  refine dO rfl rfl rfl (op_load_sptr rfl rfl ta149 rfl ⟨rfl, rfl⟩) <| dOps_op rfl rfl (.cons (op_load_ref rfl rfl (by first | exact get_app (get_app hA) | exact get_app hA) ta146 rfl ⟨rfl, rfl⟩) (.cons (op_load_ref rfl rfl (by first | exact get_app (get_app hA) | exact get_app hA) ta146 rfl ⟨rfl, rfl⟩) (.nil))) ?_
  refine dOps_op rfl rfl (.cons (op_slice rfl Tryz.underlying146 sz149 rfl (.some rfl rfl) .none (by simp) (by simp) ⟨rfl, rfl⟩) (.cons (op_slice rfl Tryz.underlying146 sz149 rfl (.some rfl rfl) .none (by simp) (by simp) ⟨rfl, rfl⟩) (.nil))) ?_
  rw [drop1]
  refine dOps_eff rfl rfl rfl rfl (op_store_last rfl rfl rfl sz149 rfl rfl (Nat.le_of_ble_eq_true rfl) ⟨rfl, rfl⟩) <| dOps_eff rfl rfl rfl rfl (op_store_box rfl rfl rfl (hA) sz146 rfl rfl (Nat.le_of_ble_eq_true rfl) ⟨rfl, by rw [hUA]; rfl⟩) ?_
  refine dOps_nil <| mwp_seq ?_
  rcases Nat.lt_or_eq_of_le hj with hjm | hjm
  ·
   refine qR rfl <| qM rfl rfl rfl <| qO rfl <| op_load_ref rfl rfl (get_last2 hlT) ta149 rfl <| qO rfl <| (hyt j _ hjm hy).at2 rfl rfl rfl <| qO rfl <| op_not rfl rfl <| qN <| mwp_cond_f rfl (rfl) <| mwp_skip ?_
   refine ⟨⟨j + 1, J ++ [_]⟩, by dsimp only; omega, ⟨by dsimp only; omega, by dsimp only; rw [restE, hR, hst]; exact hnx⟩, List.append_assoc .., (.keep rfl (.keep rfl (.keep rfl (.keep rfl (.nil))))), (.nil)⟩
  ·
   refine qR rfl <| qM rfl rfl rfl <| qO rfl <| op_load_ref rfl rfl (get_last2 hlT) ta149 rfl <| qO rfl <| (hyf j _ hjm hy).at2 rfl rfl rfl <| qO rfl <| op_not rfl rfl <| qN <| mwp_cond_t rfl (rfl) <| mwp_ret ?_
   rw [List.append_assoc]
   exact ret_noneS (S' := T (j + 1)) (by simp) Tryz.results143 (by rw [(hok _).1, (hok _).1]; exact Nat.le_refl _) (hok _).2 ⟨rfl, by rw [hjm, if_pos (by omega)]⟩
 ·
  refine qR rfl <| qO rfl <| op_load_ref rfl rfl (by first | exact get_app (get_app hA) | exact get_app hA) ta146 rfl ?_
  refine qE rfl rfl Tryz.underlying146 rfl <| qC rfl rfl rfl rfl (gt_cons) <| qM rfl rfl rfl <| qS rfl <| qS rfl <| qS rfl <| qP rfl rfl rfl rfl <| qN <| mwp_cond_t rfl (rfl) <| mwp_skip <| mwp_block <| mwp_seq <| qR rfl <| qO rfl <| op_alloc rfl zm149 <| qN <| mwp_seq <| mwp_block <| mwp_seq ?_
  refine mwp_draw [] [_] mo (by decide) rfl rfl rfl rfl ?_
  refine dO rfl rfl rfl (op_load_ref rfl rfl (by first | exact get_app (get_app hB) | exact get_app hB | exact get_app (get_app (get_ne hab hB))) ta146 rfl ⟨rfl, rfl⟩) ?_
  refine dO rfl rfl rfl (op_len_lst rfl Tryz.underlying146 rfl ⟨rfl, rfl⟩) <| dO rfl rfl rfl (op_cmp rfl rfl rfl (eq_cons) ⟨rfl, rfl⟩) <| dO rfl rfl rfl (op_move rfl rfl ⟨rfl, rfl⟩) <| dO rfl rfl rfl (op_load_ref rfl rfl (by first | exact get_app (get_app hA) | exact get_app hA) ta146 rfl ⟨rfl, rfl⟩) ?_
  refine dO rfl rfl rfl (op_len_lst rfl Tryz.underlying146 rfl ⟨rfl, rfl⟩) <| dO rfl rfl rfl (op_cmp rfl rfl rfl (gt_cons) ⟨rfl, rfl⟩) <| dO rfl rfl rfl (op_move rfl rfl ⟨rfl, rfl⟩) ?_
  refine dOps_op rfl rfl (.cons (op_load_ref rfl rfl (get_app (get_app hC)) ta106 rfl ⟨rfl, rfl⟩) .nil) ?_
  refine dO rfl rfl rfl (op_load_ref rfl rfl (by first | exact get_app (get_app hA) | exact get_app hA) ta146 rfl ⟨rfl, rfl⟩) ?_
  refine dO rfl rfl rfl (op_indexAddr rfl Tryz.underlying146 sz149 (by decide) rfl rfl rfl (show _ = some (encR encC x) from rfl) ⟨rfl, rfl⟩) ?_
  refine dO rfl rfl rfl (op_fieldAddr_sptr rfl rfl fo149_0 ⟨rfl, rfl⟩) <| dO rfl rfl rfl (op_load_sptr rfl rfl ta55 rfl ⟨rfl, rfl⟩) <| dO rfl rfl rfl (op_load_ref rfl rfl (by first | exact get_app (get_app hB) | exact get_app hB | exact get_app (get_app (get_ne hab hB))) ta146 rfl ⟨rfl, rfl⟩) ?_
  refine dO rfl rfl rfl (op_indexAddr rfl Tryz.underlying146 sz149 (by decide) rfl rfl rfl (show _ = some (encR encC y) from rfl) ⟨rfl, rfl⟩) ?_
  refine dO rfl rfl rfl (op_fieldAddr_sptr rfl rfl fo149_0 ⟨rfl, rfl⟩) <| dO rfl rfl rfl (op_load_sptr rfl rfl ta55 rfl ⟨rfl, rfl⟩) <| dOps_op rfl rfl (.cons (op_call rfl rfl rfl hcc (hcmp x.1 y.1 _)) .nil) <| dO rfl rfl rfl (op_cmp rfl rfl rfl rfl ⟨rfl, rfl⟩) <| dO rfl rfl rfl (op_pick rfl rfl rfl ⟨rfl, rfl⟩) <| dO rfl rfl rfl (op_pick rfl rfl rfl ⟨rfl, rfl⟩) <| dO rfl rfl rfl (op_assign rfl rfl ⟨rfl, rfl⟩) <| dOps_nil ?_
  refine mwp_cond_split rfl (fun h31 => ?_) (fun h31 => ?_)
  ·
   have hlt : cmp x.1 y.1 < 0 := by simpa using h31
   have hst : stepE cmp (x :: ra, y :: rb) = (ra, y :: rb) := by rw [stepE, if_pos hlt]
   rw [mergeE, if_pos hlt] at he
   obtain ⟨hy, hnx⟩ := drop_cons_get he
   replace hy : ((mergeE cmp a b).map fun e => [encE encC e])[j]? = some [encE encC (x.1, x.2, none)] := by rw [List.getElem?_map, hy]; rfl
   have hjl := (List.getElem?_eq_some_iff.1 hy).1
   have hUA : U j = (T j).set ida (.cells [.lst none 3 (ra.map (encR encC))]) := by rw [hU, hst]; exact set_self_ (get_ne hab hB)
   refine mwp_draw [5, 6] [_, (T j ++ J) ++ [.cells [encC x.1, .sptr (encV x.2).cells, .ptr0]], (U j ++ J) ++ [.cells [encC x.1, .sptr (encV x.2).cells, .ptr0]]] mo (by decide) rfl rfl rfl rfl ?_
   refine dO rfl rfl rfl (op_load_ref rfl rfl (by first | exact get_app (get_app hA) | exact get_app hA) ta146 rfl ⟨rfl, rfl⟩) ?_
   refine dO rfl rfl rfl (op_indexAddr rfl Tryz.underlying146 sz149 (by decide) rfl rfl rfl (show _ = some (encR encC x) from rfl) ⟨rfl, rfl⟩) ?_
   refine dO rfl rfl rfl (op_load_sptr rfl rfl ta149 rfl ⟨rfl, rfl⟩) <| dOps_op rfl rfl (.cons (op_load_ref rfl rfl (by first | exact get_app (get_app hA) | exact get_app hA) ta146 rfl ⟨rfl, rfl⟩) (.cons (op_load_ref rfl rfl (by first | exact get_app (get_app hA) | exact get_app hA) ta146 rfl ⟨rfl, rfl⟩) (.nil))) ?_
   refine dOps_op rfl rfl (.cons (op_slice rfl Tryz.underlying146 sz149 rfl (.some rfl rfl) .none (by simp) (by simp) ⟨rfl, rfl⟩) (.cons (op_slice rfl Tryz.underlying146 sz149 rfl (.some rfl rfl) .none (by simp) (by simp) ⟨rfl, rfl⟩) (.nil))) ?_
   rw [drop1]
   refine dOps_eff rfl rfl rfl rfl (op_store_last rfl rfl rfl sz149 rfl rfl (Nat.le_of_ble_eq_true rfl) ⟨rfl, rfl⟩) <| dOps_eff rfl rfl rfl rfl (op_store_box rfl rfl rfl (hA) sz146 rfl rfl (Nat.le_of_ble_eq_true rfl) ⟨rfl, by rw [hUA]; rfl⟩) ?_
   refine dOps_nil <| mwp_seq ?_
   rcases Nat.lt_or_eq_of_le hj with hjm | hjm
   ·
    refine qR rfl <| qM rfl rfl rfl <| qO rfl <| op_load_ref rfl rfl (get_last2 hlT) ta149 rfl <| qO rfl <| (hyt j _ hjm hy).at2 rfl rfl rfl <| qO rfl <| op_not rfl rfl <| qN <| mwp_cond_f rfl (rfl) <| mwp_skip ?_
    refine ⟨⟨j + 1, J ++ [_]⟩, by dsimp only; omega, ⟨by dsimp only; omega, by dsimp only; rw [restE, hR, hst]; exact hnx⟩, List.append_assoc .., (.keep rfl (.keep rfl (.keep rfl (.keep rfl (.nil))))), (.nil)⟩
   ·
    refine qR rfl <| qM rfl rfl rfl <| qO rfl <| op_load_ref rfl rfl (get_last2 hlT) ta149 rfl <| qO rfl <| (hyf j _ hjm hy).at2 rfl rfl rfl <| qO rfl <| op_not rfl rfl <| qN <| mwp_cond_t rfl (rfl) <| mwp_ret ?_
    rw [List.append_assoc]
    exact ret_noneS (S' := T (j + 1)) (by simp) Tryz.results143 (by rw [(hok _).1, (hok _).1]; exact Nat.le_refl _) (hok _).2 ⟨rfl, by rw [hjm, if_pos (by omega)]⟩
  ·
   have hlt : ¬ cmp x.1 y.1 < 0 := by simpa using h31
   refine mwp_seq ?_
   refine mwp_draw [] [_] mo (by decide) rfl rfl rfl rfl ?_
   refine dO rfl rfl rfl (op_load_ref rfl rfl (by first | exact get_app (get_app hA) | exact get_app hA) ta146 rfl ⟨rfl, rfl⟩) ?_
   refine dO rfl rfl rfl (op_len_lst rfl Tryz.underlying146 rfl ⟨rfl, rfl⟩) <| dO rfl rfl rfl (op_cmp rfl rfl rfl (eq_cons) ⟨rfl, rfl⟩) <| dO rfl rfl rfl (op_move rfl rfl ⟨rfl, rfl⟩) ?_
   refine dOps_op rfl rfl (.cons (op_load_ref rfl rfl (get_app (get_app hC)) ta106 rfl ⟨rfl, rfl⟩) .nil) ?_
   refine dO rfl rfl rfl (op_load_ref rfl rfl (by first | exact get_app (get_app hB) | exact get_app hB | exact get_app (get_app (get_ne hab hB))) ta146 rfl ⟨rfl, rfl⟩) ?_
   refine dO rfl rfl rfl (op_indexAddr rfl Tryz.underlying146 sz149 (by decide) rfl rfl rfl (show _ = some (encR encC y) from rfl) ⟨rfl, rfl⟩) ?_
   refine dO rfl rfl rfl (op_fieldAddr_sptr rfl rfl fo149_0 ⟨rfl, rfl⟩) <| dO rfl rfl rfl (op_load_sptr rfl rfl ta55 rfl ⟨rfl, rfl⟩) <| dO rfl rfl rfl (op_load_ref rfl rfl (by first | exact get_app (get_app hA) | exact get_app hA) ta146 rfl ⟨rfl, rfl⟩) ?_
   refine dO rfl rfl rfl (op_indexAddr rfl Tryz.underlying146 sz149 (by decide) rfl rfl rfl (show _ = some (encR encC x) from rfl) ⟨rfl, rfl⟩) ?_
   refine dO rfl rfl rfl (op_fieldAddr_sptr rfl rfl fo149_0 ⟨rfl, rfl⟩) <| dO rfl rfl rfl (op_load_sptr rfl rfl ta55 rfl ⟨rfl, rfl⟩) <| dOps_op rfl rfl (.cons (op_call rfl rfl rfl hcc (hcmp y.1 x.1 _)) .nil) <| dO rfl rfl rfl (op_cmp rfl rfl rfl rfl ⟨rfl, rfl⟩) <| dO rfl rfl rfl (op_pick rfl rfl rfl ⟨rfl, rfl⟩) <| dO rfl rfl rfl (op_assign rfl rfl ⟨rfl, rfl⟩) <| dOps_nil ?_
   refine mwp_cond_split rfl (fun h58 => ?_) (fun h58 => ?_)
   ·
    have hgt : cmp y.1 x.1 < 0 := by simpa using h58
    have hst : stepE cmp (x :: ra, y :: rb) = (x :: ra, rb) := by rw [stepE, if_neg hlt, if_pos hgt]
    rw [mergeE, if_neg hlt, if_pos hgt] at he
    obtain ⟨hy, hnx⟩ := drop_cons_get he
    replace hy : ((mergeE cmp a b).map fun e => [encE encC e])[j]? = some [encE encC (y.1, y.2, none)] := by rw [List.getElem?_map, hy]; rfl
    have hjl := (List.getElem?_eq_some_iff.1 hy).1
    have hUB : U j = (T j).set idb (.cells [.lst none 3 (rb.map (encR encC))]) := by rw [hU, hst, set_self_ hA]
    refine mwp_draw [5, 6] [_, (T j ++ J) ++ [.cells [encC y.1, .sptr (encV y.2).cells, .ptr0]], (U j ++ J) ++ [.cells [encC y.1, .sptr (encV y.2).cells, .ptr0]]] mo (by decide) rfl rfl rfl rfl ?_
    refine dO rfl rfl rfl (op_load_ref rfl rfl (by first | exact get_app (get_app hB) | exact get_app hB | exact get_app (get_app (get_ne hab hB))) ta146 rfl ⟨rfl, rfl⟩) ?_
    refine dO rfl rfl rfl (op_indexAddr rfl Tryz.underlying146 sz149 (by decide) rfl rfl rfl (show _ = some (encR encC y) from rfl) ⟨rfl, rfl⟩) ?_
    refine dO rfl rfl rfl (op_load_sptr rfl rfl ta149 rfl ⟨rfl, rfl⟩) <| dOps_op rfl rfl (.cons (op_load_ref rfl rfl (by first | exact get_app (get_app hB) | exact get_app hB | exact get_app (get_app (get_ne hab hB))) ta146 rfl ⟨rfl, rfl⟩) (.cons (op_load_ref rfl rfl (by first | exact get_app (get_app hB) | exact get_app hB | exact get_app (get_app (get_ne hab hB))) ta146 rfl ⟨rfl, rfl⟩) (.nil))) ?_
    refine dOps_op rfl rfl (.cons (op_slice rfl Tryz.underlying146 sz149 rfl (.some rfl rfl) .none (by simp) (by simp) ⟨rfl, rfl⟩) (.cons (op_slice rfl Tryz.underlying146 sz149 rfl (.some rfl rfl) .none (by simp) (by simp) ⟨rfl, rfl⟩) (.nil))) ?_
    rw [drop1]
    refine dOps_eff rfl rfl rfl rfl (op_store_last rfl rfl rfl sz149 rfl rfl (Nat.le_of_ble_eq_true rfl) ⟨rfl, rfl⟩) <| dOps_eff rfl rfl rfl rfl (op_store_box rfl rfl rfl (by first | exact hB | exact get_ne hab hB) sz146 rfl rfl (Nat.le_of_ble_eq_true rfl) ⟨rfl, by rw [hUB]; rfl⟩) ?_
    refine dOps_nil <| mwp_seq ?_
    rcases Nat.lt_or_eq_of_le hj with hjm | hjm
    ·
     refine qR rfl <| qM rfl rfl rfl <| qO rfl <| op_load_ref rfl rfl (get_last2 hlT) ta149 rfl <| qO rfl <| (hyt j _ hjm hy).at2 rfl rfl rfl <| qO rfl <| op_not rfl rfl <| qN <| mwp_cond_f rfl (rfl) <| mwp_skip ?_
     refine ⟨⟨j + 1, J ++ [_]⟩, by dsimp only; omega, ⟨by dsimp only; omega, by dsimp only; rw [restE, hR, hst]; exact hnx⟩, List.append_assoc .., (.keep rfl (.keep rfl (.keep rfl (.keep rfl (.nil))))), (.nil)⟩
    ·
     refine qR rfl <| qM rfl rfl rfl <| qO rfl <| op_load_ref rfl rfl (get_last2 hlT) ta149 rfl <| qO rfl <| (hyf j _ hjm hy).at2 rfl rfl rfl <| qO rfl <| op_not rfl rfl <| qN <| mwp_cond_t rfl (rfl) <| mwp_ret ?_
     rw [List.append_assoc]
     exact ret_noneS (S' := T (j + 1)) (by simp) Tryz.results143 (by rw [(hok _).1, (hok _).1]; exact Nat.le_refl _) (hok _).2 ⟨rfl, by rw [hjm, if_pos (by omega)]⟩
   ·
    have hgt : ¬ cmp y.1 x.1 < 0 := by simpa using h58
    have hst : stepE cmp (x :: ra, y :: rb) = (ra, rb) := by rw [stepE, if_neg hlt, if_neg hgt]
    rw [mergeE, if_neg hlt, if_neg hgt] at he
    obtain ⟨hy, hnx⟩ := drop_cons_get he
    replace hy : ((mergeE cmp a b).map fun e => [encE encC e])[j]? = some [encE encC (x.1, x.2, some y.2)] := by rw [List.getElem?_map, hy]; rfl
    have hjl := (List.getElem?_eq_some_iff.1 hy).1
    have hUC : U j = ((T j).set ida (.cells [.lst none 3 (ra.map (encR encC))])).set idb (.cells [.lst none 3 (rb.map (encR encC))]) := by rw [hU, hst]
    refine mwp_draw [17, 18, 19] [_, (T j ++ J) ++ [.cells [encC x.1, .sptr (encV x.2).cells, .sptr (encV y.2).cells]], ((T j).set ida (.cells [.lst none 3 (ra.map (encR encC))]) ++ J) ++ [.cells [encC x.1, .sptr (encV x.2).cells, .sptr (encV y.2).cells]], (U j ++ J) ++ [.cells [encC x.1, .sptr (encV x.2).cells, .sptr (encV y.2).cells]]] mo (by decide) rfl rfl rfl rfl ?_
    refine dO rfl rfl rfl (op_load_ref rfl rfl (by first | exact get_app (get_app hA) | exact get_app hA) ta146 rfl ⟨rfl, rfl⟩) ?_
    refine dO rfl rfl rfl (op_indexAddr rfl Tryz.underlying146 sz149 (by decide) rfl rfl rfl (show _ = some (encR encC x) from rfl) ⟨rfl, rfl⟩) ?_
    refine dO rfl rfl rfl (op_fieldAddr_sptr rfl rfl fo149_0 ⟨rfl, rfl⟩) <| dO rfl rfl rfl (op_load_sptr rfl rfl ta55 rfl ⟨rfl, rfl⟩) <| dO rfl rfl rfl (op_load_ref rfl rfl (by first | exact get_app (get_app hA) | exact get_app hA) ta146 rfl ⟨rfl, rfl⟩) ?_
    refine dO rfl rfl rfl (op_indexAddr rfl Tryz.underlying146 sz149 (by decide) rfl rfl rfl (show _ = some (encR encC x) from rfl) ⟨rfl, rfl⟩) ?_
    refine dO rfl rfl rfl (op_fieldAddr_sptr rfl rfl fo149_1 ⟨rfl, rfl⟩) <| dO rfl rfl rfl (op_load_sptr rfl rfl ta142 rfl ⟨rfl, rfl⟩) <| dO rfl rfl rfl (op_load_ref rfl rfl (by first | exact get_app (get_app hB) | exact get_app hB | exact get_app (get_app (get_ne hab hB))) ta146 rfl ⟨rfl, rfl⟩) ?_
    refine dO rfl rfl rfl (op_indexAddr rfl Tryz.underlying146 sz149 (by decide) rfl rfl rfl (show _ = some (encR encC y) from rfl) ⟨rfl, rfl⟩) ?_
    refine dO rfl rfl rfl (op_fieldAddr_sptr rfl rfl fo149_1 ⟨rfl, rfl⟩) <| dO rfl rfl rfl (op_load_sptr rfl rfl ta142 rfl ⟨rfl, rfl⟩) <| dO rfl rfl rfl (op_build rfl Tryz.underlying149 zm149 (.cons fo149_0 sz55 rfl rfl (Nat.le_of_ble_eq_true rfl) (.cons fo149_1 sz142 rfl rfl (Nat.le_of_ble_eq_true rfl) (.cons fo149_2 sz142 rfl rfl (Nat.le_of_ble_eq_true rfl) .nil))) (by kernel_rfl) ⟨rfl, rfl⟩) ?_
    refine dOps_op rfl rfl (.cons (op_load_ref rfl rfl (by first | exact get_app (get_app hA) | exact get_app hA) ta146 rfl ⟨rfl, rfl⟩) (.cons (op_load_ref rfl rfl (by first | exact get_app (get_app hA) | exact get_app hA) ta146 rfl ⟨rfl, rfl⟩) (.nil))) ?_
    refine dOps_op rfl rfl (.cons (op_slice rfl Tryz.underlying146 sz149 rfl (.some rfl rfl) .none (by simp) (by simp) ⟨rfl, rfl⟩) (.cons (op_slice rfl Tryz.underlying146 sz149 rfl (.some rfl rfl) .none (by simp) (by simp) ⟨rfl, rfl⟩) (.nil))) ?_
    rw [drop1]
    refine dOps_op rfl rfl (.cons (op_load_ref rfl rfl (by first | exact get_app (get_app hB) | exact get_app hB | exact get_app (get_app (get_ne hab hB))) ta146 rfl ⟨rfl, rfl⟩) (.cons (op_load_ref rfl rfl (by first | exact get_app (get_app hB) | exact get_app hB | exact get_app (get_app (get_ne hab hB))) ta146 rfl ⟨rfl, rfl⟩) (.cons (op_load_ref rfl rfl (by first | exact get_app (get_app hB) | exact get_app hB | exact get_app (get_app (get_ne hab hB))) ta146 rfl ⟨rfl, rfl⟩) (.nil)))) ?_
    refine dOps_op rfl rfl (.cons (op_slice rfl Tryz.underlying146 sz149 rfl (.some rfl rfl) .none (by simp) (by simp) ⟨rfl, rfl⟩) (.cons (op_slice rfl Tryz.underlying146 sz149 rfl (.some rfl rfl) .none (by simp) (by simp) ⟨rfl, rfl⟩) (.cons (op_slice rfl Tryz.underlying146 sz149 rfl (.some rfl rfl) .none (by simp) (by simp) ⟨rfl, rfl⟩) (.nil)))) ?_
    rw [drop1]
    refine dOps_eff rfl rfl rfl rfl (op_store_last rfl rfl rfl sz149 rfl rfl (Nat.le_of_ble_eq_true rfl) ⟨rfl, rfl⟩) <| dOps_eff rfl rfl rfl rfl (op_store_box rfl rfl rfl (hA) sz146 rfl rfl (Nat.le_of_ble_eq_true rfl) ⟨rfl, rfl⟩) <| dOps_eff rfl rfl rfl rfl (op_store_box rfl rfl rfl (by first | exact hB | exact get_ne hab hB) sz146 rfl rfl (Nat.le_of_ble_eq_true rfl) ⟨rfl, by rw [hUC]; rfl⟩) ?_
    refine dOps_nil <| mwp_seq ?_
    rcases Nat.lt_or_eq_of_le hj with hjm | hjm
    ·
     refine qR rfl <| qM rfl rfl rfl <| qO rfl <| op_load_ref rfl rfl (get_last2 hlT) ta149 rfl <| qO rfl <| (hyt j _ hjm hy).at2 rfl rfl rfl <| qO rfl <| op_not rfl rfl <| qN <| mwp_cond_f rfl (rfl) <| mwp_skip ?_
     refine ⟨⟨j + 1, J ++ [_]⟩, by dsimp only; omega, ⟨by dsimp only; omega, by dsimp only; rw [restE, hR, hst]; exact hnx⟩, List.append_assoc .., (.keep rfl (.keep rfl (.keep rfl (.keep rfl (.nil))))), (.nil)⟩
    ·
     refine qR rfl <| qM rfl rfl rfl <| qO rfl <| op_load_ref rfl rfl (get_last2 hlT) ta149 rfl <| qO rfl <| (hyf j _ hjm hy).at2 rfl rfl rfl <| qO rfl <| op_not rfl rfl <| qN <| mwp_cond_t rfl (rfl) <| mwp_ret ?_
     rw [List.append_assoc]
     exact ret_noneS (S' := T (j + 1)) (by simp) Tryz.results143 (by rw [(hok _).1, (hok _).1]; exact Nat.le_refl _) (hok _).2 ⟨rfl, by rw [hjm, if_pos (by omega)]⟩
theorem xmerged_iter (cmp : Bs → Bs → Int) (kc : FuncId) (hcc : CallOk Tryz.prog kc) (hcmp : ∀ (k1 k2 : Bs) (S : MS), MCalls Tryz.prog kc ([] ++ [encX k1, encX k2] ++ []) S fun v σ' => v = .int .i64 (cmp k1 k2) ∧ σ' = S) (a b : List (REnt (Bs))) (ida idb idc l0 : Nat) (hab : ida ≠ idb) :
  IterOk2 Tryz.prog 140 [] [.ref ida 0, .ref idb 0, .ref idc 0] ((mergeE cmp a b).map fun e => [encE encX e]) (fun σ => σ.length = l0 ∧ ClS σ) (fun j σ τ => σ[ida]? = some (.cells [.lst none 3 ((restE cmp a b j).1.map (encR encX))]) ∧ σ[idb]? = some (.cells [.lst none 3 ((restE cmp a b j).2.map (encR encX))]) ∧ σ[idc]? = some (.cells [.fn (.func kc) [] []]) ∧ τ = (σ.set ida (.cells [.lst none 3 ((restE cmp a b (j + 1)).1.map (encR encX))])).set idb (.cells [.lst none 3 ((restE cmp a b (j + 1)).2.map (encR encX))])) := by
 refine iterOk2_of fun id T U m hok hoku hm hyt hyf => ?_
 have hml : ((mergeE cmp a b).map fun e => [encE encX e]).length = (mergeE cmp a b).length := List.length_map ..
 refine mcalls_body Tryz.func140 rfl Tryz.ntmps140 (Nat.le_of_ble_eq_true rfl) ?_
 rw [List.append_nil]
 show mwp _ _ _ _ _ _ _ (([] : MS) ++ T 0)
 refine mwp_block ?_
 refine mwp_loopK (α := Nat × MS) [(0, _), (1, _), (2, _), (3, _)] (fun x => []) (fun x => T x.1 ++ x.2) (fun x => x.1 ≤ m ∧ mergeE cmp (restE cmp a b x.1).1 (restE cmp a b x.1).2 = (mergeE cmp a b).drop x.1) (fun x => m + 1 - x.1) (⟨0, []⟩) (.keep rfl (.keep rfl (.keep rfl (.keep rfl (.nil))))) (.nil) (⟨by simp, rfl⟩) (by rw [List.append_nil]) ?_
 rintro ⟨j, J⟩ ⟨hj, he⟩
 dsimp only at hj he ⊢
 show mwp _ _ _ _ _ _ _ (T j ++ J)
 obtain ⟨hA, hB, hC, hU⟩ := hoku j hj
 obtain ⟨⟨ra, rb⟩, hR⟩ : ∃ p, restE cmp a b j = p := ⟨_, rfl⟩
 rw [restE, hR] at hU
 rw [hR] at hA hB he
 dsimp only at hA hB he
 have hlT : (U j).length = (T j).length := by rw [hU]; simp
 refine mwp_seq <| mwp_seq ?_
 rcases ra with _ | ⟨x, ra⟩ <;> rcases rb with _ | ⟨y, rb⟩
 ·
  rw [mergeE] at he
  have hdl := drop_nil_len he
  have hjm : j = m := by omega
  refine qR rfl <| qO rfl <| op_load_ref rfl rfl (by first | exact get_app (get_app hA) | exact get_app hA) ta139 rfl ?_
  refine qE rfl rfl Tryz.underlying139 rfl <| qC rfl rfl rfl rfl (gt_nil) <| qM rfl rfl rfl <| qO rfl <| op_load_ref rfl rfl (by first | exact get_app (get_app hB) | exact get_app hB | exact get_app (get_app (get_ne hab hB))) ta139 rfl ?_
  refine qE rfl rfl Tryz.underlying139 rfl <| qC rfl rfl rfl rfl (gt_nil) <| qP rfl rfl rfl rfl <| qN <| mwp_cond_f rfl (rfl) <| mwp_exit ?_
  exact ret_noneS (S' := T j) (by simp) Tryz.results140 (by rw [(hok _).1, (hok _).1]; exact Nat.le_refl _) (hok _).2 ⟨rfl, by rw [hjm, if_neg (by omega)]⟩
 ·
  refine qR rfl <| qO rfl <| op_load_ref rfl rfl (by first | exact get_app (get_app hA) | exact get_app hA) ta139 rfl ?_
  refine qE rfl rfl Tryz.underlying139 rfl <| qC rfl rfl rfl rfl (gt_nil) <| qM rfl rfl rfl <| qO rfl <| op_load_ref rfl rfl (by first | exact get_app (get_app hB) | exact get_app hB | exact get_app (get_app (get_ne hab hB))) ta139 rfl ?_
  refine qE rfl rfl Tryz.underlying139 rfl <| qC rfl rfl rfl rfl (gt_cons) <| qP rfl rfl rfl rfl <| qN <| mwp_cond_t rfl (rfl) <| mwp_skip <| mwp_block <| mwp_seq <| qR rfl <| qO rfl <| op_alloc rfl zm144 <| qN <| mwp_seq <| mwp_block <| mwp_seq ?_
  refine mwp_draw [] [_] mo (by decide) rfl rfl rfl rfl ?_
  refine dO rfl rfl rfl (op_load_ref rfl rfl (by first | exact get_app (get_app hB) | exact get_app hB | exact get_app (get_app (get_ne hab hB))) ta139 rfl ⟨rfl, rfl⟩) ?_
  refine dO rfl rfl rfl (op_len_lst rfl Tryz.underlying139 rfl ⟨rfl, rfl⟩) <| dO rfl rfl rfl (op_cmp rfl rfl rfl (eq_cons) ⟨rfl, rfl⟩) <| dO rfl rfl rfl (op_move rfl rfl ⟨rfl, rfl⟩) <| dO rfl rfl rfl (op_load_ref rfl rfl (by first | exact get_app (get_app hA) | exact get_app hA) ta139 rfl ⟨rfl, rfl⟩) ?_
  refine dO rfl rfl rfl (op_len_lst rfl Tryz.underlying139 rfl ⟨rfl, rfl⟩) <| dO rfl rfl rfl (op_cmp rfl rfl rfl (gt_nil) ⟨rfl, rfl⟩) <| dO rfl rfl rfl (op_move rfl rfl ⟨rfl, rfl⟩) <| dS rfl rfl <| dS rfl rfl <| dS rfl rfl <| dS rfl rfl <| dS rfl rfl <| dS rfl rfl <| dS rfl rfl <| dS rfl rfl <| dS rfl rfl <| dS rfl rfl <| dS rfl rfl <| dO rfl rfl rfl (op_pick rfl rfl rfl ⟨rfl, rfl⟩) <| dO rfl rfl rfl (op_pick rfl rfl rfl ⟨rfl, rfl⟩) <| dO rfl rfl rfl (op_assign rfl rfl ⟨rfl, rfl⟩) <| dOps_nil <| mwp_cond_f rfl (rfl) <| mwp_seq ?_
  refine mwp_draw [] [_] mo (by decide) rfl rfl rfl rfl ?_
  refine dO rfl rfl rfl (op_load_ref rfl rfl (by first | exact get_app (get_app hA) | exact get_app hA) ta139 rfl ⟨rfl, rfl⟩) ?_
  refine dO rfl rfl rfl (op_len_lst rfl Tryz.underlying139 rfl ⟨rfl, rfl⟩) <| dO rfl rfl rfl (op_cmp rfl rfl rfl (eq_nil) ⟨rfl, rfl⟩) <| dO rfl rfl rfl (op_move rfl rfl ⟨rfl, rfl⟩) <| dS rfl rfl <| dS rfl rfl <| dS rfl rfl <| dS rfl rfl <| dS rfl rfl <| dS rfl rfl <| dS rfl rfl <| dS rfl rfl <| dS rfl rfl <| dS rfl rfl <| dS rfl rfl <| dO rfl rfl rfl (op_pick rfl rfl rfl ⟨rfl, rfl⟩) <| dO rfl rfl rfl (op_assign rfl rfl ⟨rfl, rfl⟩) <| dOps_nil <| mwp_cond_t rfl (rfl) ?_
  have hst : stepE cmp ([], y :: rb) = ([], rb) := by rw [stepE]
  rw [mergeE] at he
  obtain ⟨hy, hnx⟩ := drop_cons_get he
  replace hy : ((mergeE cmp a b).map fun e => [encE encX e])[j]? = some [encE encX (y.1, y.2, none)] := by rw [List.getElem?_map, hy]; rfl
  have hjl := (List.getElem?_eq_some_iff.1 hy).1
  have hUB : U j = (T j).set idb (.cells [.lst none 3 (rb.map (encR encX))]) := by rw [hU, hst, set_self_ hA]
  refine mwp_draw [5, 6] [_, (T j ++ J) ++ [.cells [encX y.1, .sptr (encV y.2).cells, .ptr0]], (U j ++ J) ++ [.cells [encX y.1, .sptr (encV y.2).cells, .ptr0]]] mo (by decide) rfl rfl rfl rfl ?_
  refine dO rfl rfl rfl (op_load_ref rfl rfl (by first | exact get_app (get_app hB) | exact get_app hB | exact get_app (get_app (get_ne hab hB))) ta139 rfl ⟨rfl, rfl⟩) ?_
  refine dO rfl rfl rfl (op_indexAddr rfl Tryz.underlying139 sz144 (by decide) rfl rfl rfl (show _ = some (encR encX y) from rfl) ⟨rfl, rfl⟩) ?_
  refine dO rfl rfl rfl (op_load_sptr rfl rfl ta144 rfl ⟨rfl, rfl⟩) <| dOps_op rfl rfl (.cons (op_load_ref rfl rfl (by first | exact get_app (get_app hB) | exact get_app hB | exact get_app (get_app (get_ne hab hB))) ta139 rfl ⟨rfl, rfl⟩) (.cons (op_load_ref rfl rfl (by first | exact get_app (get_app hB) | exact get_app hB | exact get_app (get_app (get_ne hab hB))) ta139 rfl ⟨rfl, rfl⟩) (.nil))) ?_
  refine dOps_op rfl rfl (.cons (op_slice rfl Tryz.underlying139 sz144 rfl (.some rfl rfl) .none (by simp) (by simp) ⟨rfl, rfl⟩) (.cons (op_slice rfl Tryz.underlying139 sz144 rfl (.some rfl rfl) .none (by simp) (by simp) ⟨rfl, rfl⟩) (.nil))) ?_
  rw [drop1]
  refine dOps_eff rfl rfl rfl rfl (op_store_last rfl rfl rfl sz144 rfl rfl (Nat.le_of_ble_eq_true rfl) ⟨rfl, rfl⟩) <| dOps_eff rfl rfl rfl rfl (op_store_box rfl rfl rfl (by first | exact hB | exact get_ne hab hB) sz139 rfl rfl (Nat.le_of_ble_eq_true rfl) ⟨rfl, by rw [hUB]; rfl⟩) ?_
  refine dOps_nil <| mwp_seq ?_
  rcases Nat.lt_or_eq_of_le hj with hjm | hjm
  ·
   refine qR rfl <| qM rfl rfl rfl <| qO rfl <| op_load_ref rfl rfl (get_last2 hlT) ta144 rfl <| qO rfl <| (hyt j _ hjm hy).at2 rfl rfl rfl <| qO rfl <| op_not rfl rfl <| qN <| mwp_cond_f rfl (rfl) <| mwp_skip ?_
   refine ⟨⟨j + 1, J ++ [_]⟩, by dsimp only; omega, ⟨by dsimp only; omega, by dsimp only; rw [restE, hR, hst]; exact hnx⟩, List.append_assoc .., (.keep rfl (.keep rfl (.keep rfl (.keep rfl (.nil))))), (.nil)⟩
  ·
   refine qR rfl <| qM rfl rfl rfl <| qO rfl <| op_load_ref rfl rfl (get_last2 hlT) ta144 rfl <| qO rfl <| (hyf j _ hjm hy).at2 rfl rfl rfl <| qO rfl <| op_not rfl rfl <| qN <| mwp_cond_t rfl (rfl) <| mwp_ret ?_
   rw [List.append_assoc]
   exact ret_noneS (S' := T (j + 1)) (by simp) Tryz.results140 (by rw [(hok _).1, (hok _).1]; exact Nat.le_refl _) (hok _).2 ⟨rfl, by rw [hjm, if_pos (by omega)]⟩
 ·
  refine qR rfl <| qO rfl <| op_load_ref rfl rfl (by first | exact get_app (get_app hA) | exact get_app hA) ta139 rfl ?_
  refine qE rfl rfl Tryz.underlying139 rfl <| qC rfl rfl rfl rfl (gt_cons) <| qM rfl rfl rfl <| qS rfl <| qS rfl <| qS rfl <| qP rfl rfl rfl rfl <| qN <| mwp_cond_t rfl (rfl) <| mwp_skip <| mwp_block <| mwp_seq <| qR rfl <| qO rfl <| op_alloc rfl zm144 <| qN <| mwp_seq <| mwp_block <| mwp_seq ?_
  refine mwp_draw [] [_] mo (by decide) rfl rfl rfl rfl ?_
  refine dO rfl rfl rfl (op_load_ref rfl rfl (by first | exact get_app (get_app hB) | exact get_app hB | exact get_app (get_app (get_ne hab hB))) ta139 rfl ⟨rfl, rfl⟩) ?_
  refine dO rfl rfl rfl (op_len_lst rfl Tryz.underlying139 rfl ⟨rfl, rfl⟩) <| dO rfl rfl rfl (op_cmp rfl rfl rfl (eq_nil) ⟨rfl, rfl⟩) <| dO rfl rfl rfl (op_move rfl rfl ⟨rfl, rfl⟩) <| dS rfl rfl <| dS rfl rfl <| dS rfl rfl <| dS rfl rfl <| dS rfl rfl <| dS rfl rfl <| dS rfl rfl <| dS rfl rfl <| dS rfl rfl <| dS rfl rfl <| dS rfl rfl <| dS rfl rfl <| dS rfl rfl <| dS rfl rfl <| dS rfl rfl <| dS rfl rfl <| dO rfl rfl rfl (op_pick rfl rfl rfl ⟨rfl, rfl⟩) <| dO rfl rfl rfl (op_assign rfl rfl ⟨rfl, rfl⟩) <| dOps_nil <| mwp_cond_t rfl (rfl) ?_
  have hst : stepE cmp (x :: ra, []) = (ra, []) := by rw [stepE]
  rw [mergeE] at he
  obtain ⟨hy, hnx⟩ := drop_cons_get he
  replace hy : ((mergeE cmp a b).map fun e => [encE encX e])[j]? = some [encE encX (x.1, x.2, none)] := by rw [List.getElem?_map, hy]; rfl
  have hjl := (List.getElem?_eq_some_iff.1 hy).1
  have hUA : U j = (T j).set ida (.cells [.lst none 3 (ra.map (encR encX))]) := by rw [hU, hst]; exact set_self_ (get_ne hab hB)
  refine mwp_draw [5, 6] [_, (T j ++ J) ++ [.cells [encX x.1, .sptr (encV x.2).cells, .ptr0]], (U j ++ J) ++ [.cells [encX x.1, .sptr (encV x.2).cells, .ptr0]]] mo (by decide) rfl rfl rfl rfl ?_
  refine dO rfl rfl rfl (op_load_ref rfl rfl (by first | exact get_app (get_app hA) | exact get_app hA) ta139 rfl ⟨rfl, rfl⟩) ?_
  refine dO rfl rfl rfl (op_indexAddr rfl Tryz.underlying139 sz144 (by decide) rfl rfl rfl (show _ = some (encR encX x) from rfl) ⟨rfl, rfl⟩) ?_
  refine dO rfl rfl rfl (op_load_sptr rfl rfl ta144 rfl ⟨rfl, rfl⟩) <| dOps_op rfl rfl (.cons (op_load_ref rfl rfl (by first | exact get_app (get_app hA) | exact get_app hA) ta139 rfl ⟨rfl, rfl⟩) (.cons (op_load_ref rfl rfl (by first | exact get_app (get_app hA) | exact get_app hA) ta139 rfl ⟨rfl, rfl⟩) (.nil))) ?_
  refine dOps_op rfl rfl (.cons (op_slice rfl Tryz.underlying139 sz144 rfl (.some rfl rfl) .none (by simp) (by simp) ⟨rfl, rfl⟩) (.cons (op_slice rfl Tryz.underlying139 sz144 rfl (.some rfl rfl) .none (by simp) (by simp) ⟨rfl, rfl⟩) (.nil))) ?_
  rw [drop1]
  refine dOps_eff rfl rfl rfl rfl (op_store_last rfl rfl rfl sz144 rfl rfl (Nat.le_of_ble_eq_true rfl) ⟨rfl, rfl⟩) <| dOps_eff rfl rfl rfl rfl (op_store_box rfl rfl rfl (hA) sz139 rfl rfl (Nat.le_of_ble_eq_true rfl) ⟨rfl, by rw [hUA]; rfl⟩) ?_
  refine dOps_nil <| mwp_seq ?_
  rcases Nat.lt_or_eq_of_le hj with hjm | hjm
  ·
   refine qR rfl <| qM rfl rfl rfl <| qO rfl <| op_load_ref rfl rfl (get_last2 hlT) ta144 rfl <| qO rfl <| (hyt j _ hjm hy).at2 rfl rfl rfl <| qO rfl <| op_not rfl rfl <| qN <| mwp_cond_f rfl (rfl) <| mwp_skip ?_
   refine ⟨⟨j + 1, J ++ [_]⟩, by dsimp only; omega, ⟨by dsimp only; omega, by dsimp only; rw [restE, hR, hst]; exact hnx⟩, List.append_assoc .., (.keep rfl (.keep rfl (.keep rfl (.keep rfl (.nil))))), (.nil)⟩
  ·
   refine qR rfl <| qM rfl rfl rfl <| qO rfl <| op_load_ref rfl rfl (get_last2 hlT) ta144 rfl <| qO rfl <| (hyf j _ hjm hy).at2 rfl rfl rfl <| qO rfl <| op_not rfl rfl <| qN <| mwp_cond_t rfl (rfl) <| mwp_ret ?_
   rw [List.append_assoc]
   exact ret_noneS (S' := T (j + 1)) (by simp) Tryz.results140 (by rw [(hok _).1, (hok _).1]; exact Nat.le_refl _) (hok _).2 ⟨rfl, by rw [hjm, if_pos (by omega)]⟩
 ·
  refine qR rfl <| qO rfl <| op_load_ref rfl rfl (by first | exact get_app (get_app hA) | exact get_app hA) ta139 rfl ?_
  refine qE rfl rfl Tryz.underlying139 rfl <| qC rfl rfl rfl rfl (gt_cons) <| qM rfl rfl rfl <| qS rfl <| qS rfl <| qS rfl <| qP rfl rfl rfl rfl <| qN <| mwp_cond_t rfl (rfl) <| mwp_skip <| mwp_block <| mwp_seq <| qR rfl <| qO rfl <| op_alloc rfl zm144 <| qN <| mwp_seq <| mwp_block <| mwp_seq ?_
  refine mwp_draw [] [_] mo (by decide) rfl rfl rfl rfl ?_
  refine dO rfl rfl rfl (op_load_ref rfl rfl (by first | exact get_app (get_app hB) | exact get_app hB | exact get_app (get_app (get_ne hab hB))) ta139 rfl ⟨rfl, rfl⟩) ?_
  refine dO rfl rfl rfl (op_len_lst rfl Tryz.underlying139 rfl ⟨rfl, rfl⟩) <| dO rfl rfl rfl (op_cmp rfl rfl rfl (eq_cons) ⟨rfl, rfl⟩) <| dO rfl rfl rfl (op_move rfl rfl ⟨rfl, rfl⟩) <| dO rfl rfl rfl (op_load_ref rfl rfl (by first | exact get_app (get_app hA) | exact get_app hA) ta139 rfl ⟨rfl, rfl⟩) ?_
  refine dO rfl rfl rfl (op_len_lst rfl Tryz.underlying139 rfl ⟨rfl, rfl⟩) <| dO rfl rfl rfl (op_cmp rfl rfl rfl (gt_cons) ⟨rfl, rfl⟩) <| dO rfl rfl rfl (op_move rfl rfl ⟨rfl, rfl⟩) ?_
  refine dOps_op rfl rfl (.cons (op_load_ref rfl rfl (get_app (get_app hC)) ta141 rfl ⟨rfl, rfl⟩) .nil) ?_
  refine dO rfl rfl rfl (op_load_ref rfl rfl (by first | exact get_app (get_app hA) | exact get_app hA) ta139 rfl ⟨rfl, rfl⟩) ?_
  refine dO rfl rfl rfl (op_indexAddr rfl Tryz.underlying139 sz144 (by decide) rfl rfl rfl (show _ = some (encR encX x) from rfl) ⟨rfl, rfl⟩) ?_
  refine dO rfl rfl rfl (op_fieldAddr_sptr rfl rfl fo144_0 ⟨rfl, rfl⟩) <| dO rfl rfl rfl (op_load_sptr rfl rfl ta9 rfl ⟨rfl, rfl⟩) <| dO rfl rfl rfl (op_load_ref rfl rfl (by first | exact get_app (get_app hB) | exact get_app hB | exact get_app (get_app (get_ne hab hB))) ta139 rfl ⟨rfl, rfl⟩) ?_
  refine dO rfl rfl rfl (op_indexAddr rfl Tryz.underlying139 sz144 (by decide) rfl rfl rfl (show _ = some (encR encX y) from rfl) ⟨rfl, rfl⟩) ?_
  refine dO rfl rfl rfl (op_fieldAddr_sptr rfl rfl fo144_0 ⟨rfl, rfl⟩) <| dO rfl rfl rfl (op_load_sptr rfl rfl ta9 rfl ⟨rfl, rfl⟩) <| dOps_op rfl rfl (.cons (op_call rfl rfl rfl hcc (hcmp x.1 y.1 _)) .nil) <| dO rfl rfl rfl (op_cmp rfl rfl rfl rfl ⟨rfl, rfl⟩) <| dO rfl rfl rfl (op_pick rfl rfl rfl ⟨rfl, rfl⟩) <| dO rfl rfl rfl (op_pick rfl rfl rfl ⟨rfl, rfl⟩) <| dO rfl rfl rfl (op_assign rfl rfl ⟨rfl, rfl⟩) <| dOps_nil ?_
  refine mwp_cond_split rfl (fun h31 => ?_) (fun h31 => ?_)
  ·
   have hlt : cmp x.1 y.1 < 0 := by simpa using h31
   have hst : stepE cmp (x :: ra, y :: rb) = (ra, y :: rb) := by rw [stepE, if_pos hlt]
   rw [mergeE, if_pos hlt] at he
   obtain ⟨hy, hnx⟩ := drop_cons_get he
   replace hy : ((mergeE cmp a b).map fun e => [encE encX e])[j]? = some [encE encX (x.1, x.2, none)] := by rw [List.getElem?_map, hy]; rfl
   have hjl := (List.getElem?_eq_some_iff.1 hy).1
   have hUA : U j = (T j).set ida (.cells [.lst none 3 (ra.map (encR encX))]) := by rw [hU, hst]; exact set_self_ (get_ne hab hB)
   refine mwp_draw [5, 6] [_, (T j ++ J) ++ [.cells [encX x.1, .sptr (encV x.2).cells, .ptr0]], (U j ++ J) ++ [.cells [encX x.1, .sptr (encV x.2).cells, .ptr0]]] mo (by decide) rfl rfl rfl rfl ?_
   refine dO rfl rfl rfl (op_load_ref rfl rfl (by first | exact get_app (get_app hA) | exact get_app hA) ta139 rfl ⟨rfl, rfl⟩) ?_
   refine dO rfl rfl rfl (op_indexAddr rfl Tryz.underlying139 sz144 (by decide) rfl rfl rfl (show _ = some (encR encX x) from rfl) ⟨rfl, rfl⟩) ?_
   refine dO rfl rfl rfl (op_load_sptr rfl rfl ta144 rfl ⟨rfl, rfl⟩) <| dOps_op rfl rfl (.cons (op_load_ref rfl rfl (by first | exact get_app (get_app hA) | exact get_app hA) ta139 rfl ⟨rfl, rfl⟩) (.cons (op_load_ref rfl rfl (by first | exact get_app (get_app hA) | exact get_app hA) ta139 rfl ⟨rfl, rfl⟩) (.nil))) ?_
   refine dOps_op rfl rfl (.cons (op_slice rfl Tryz.underlying139 sz144 rfl (.some rfl rfl) .none (by simp) (by simp) ⟨rfl, rfl⟩) (.cons (op_slice rfl Tryz.underlying139 sz144 rfl (.some rfl rfl) .none (by simp) (by simp) ⟨rfl, rfl⟩) (.nil))) ?_
   rw [drop1]
   refine dOps_eff rfl rfl rfl rfl (op_store_last rfl rfl rfl sz144 rfl rfl (Nat.le_of_ble_eq_true rfl) ⟨rfl, rfl⟩) <| dOps_eff rfl rfl rfl rfl (op_store_box rfl rfl rfl (hA) sz139 rfl rfl (Nat.le_of_ble_eq_true rfl) ⟨rfl, by rw [hUA]; rfl⟩) ?_
   refine dOps_nil <| mwp_seq ?_
   rcases Nat.lt_or_eq_of_le hj with hjm | hjm
   ·
    refine qR rfl <| qM rfl rfl rfl <| qO rfl <| op_load_ref rfl rfl (get_last2 hlT) ta144 rfl <| qO rfl <| (hyt j _ hjm hy).at2 rfl rfl rfl <| qO rfl <| op_not rfl rfl <| qN <| mwp_cond_f rfl (rfl) <| mwp_skip ?_
    refine ⟨⟨j + 1, J ++ [_]⟩, by dsimp only; omega, ⟨by dsimp only; omega, by dsimp only; rw [restE, hR, hst]; exact hnx⟩, List.append_assoc .., (.keep rfl (.keep rfl (.keep rfl (.keep rfl (.nil))))), (.nil)⟩
   ·
    refine qR rfl <| qM rfl rfl rfl <| qO rfl <| op_load_ref rfl rfl (get_last2 hlT) ta144 rfl <| qO rfl <| (hyf j _ hjm hy).at2 rfl rfl rfl <| qO rfl <| op_not rfl rfl <| qN <| mwp_cond_t rfl (rfl) <| mwp_ret ?_
    rw [List.append_assoc]
    exact ret_noneS (S' := T (j + 1)) (by simp) Tryz.results140 (by rw [(hok _).1, (hok _).1]; exact Nat.le_refl _) (hok _).2 ⟨rfl, by rw [hjm, if_pos (by omega)]⟩
  ·
   have hlt : ¬ cmp x.1 y.1 < 0 := by simpa using h31
   refine mwp_seq ?_
   refine mwp_draw [] [_] mo (by decide) rfl rfl rfl rfl ?_
   refine dO rfl rfl rfl (op_load_ref rfl rfl (by first | exact get_app (get_app hA) | exact get_app hA) ta139 rfl ⟨rfl, rfl⟩) ?_
   refine dO rfl rfl rfl (op_len_lst rfl Tryz.underlying139 rfl ⟨rfl, rfl⟩) <| dO rfl rfl rfl (op_cmp rfl rfl rfl (eq_cons) ⟨rfl, rfl⟩) <| dO rfl rfl rfl (op_move rfl rfl ⟨rfl, rfl⟩) ?_
   refine dOps_op rfl rfl (.cons (op_load_ref rfl rfl (get_app (get_app hC)) ta141 rfl ⟨rfl, rfl⟩) .nil) ?_
   refine dO rfl rfl rfl (op_load_ref rfl rfl (by first | exact get_app (get_app hB) | exact get_app hB | exact get_app (get_app (get_ne hab hB))) ta139 rfl ⟨rfl, rfl⟩) ?_
   refine dO rfl rfl rfl (op_indexAddr rfl Tryz.underlying139 sz144 (by decide) rfl rfl rfl (show _ = some (encR encX y) from rfl) ⟨rfl, rfl⟩) ?_
   refine dO rfl rfl rfl (op_fieldAddr_sptr rfl rfl fo144_0 ⟨rfl, rfl⟩) <| dO rfl rfl rfl (op_load_sptr rfl rfl ta9 rfl ⟨rfl, rfl⟩) <| dO rfl rfl rfl (op_load_ref rfl rfl (by first | exact get_app (get_app hA) | exact get_app hA) ta139 rfl ⟨rfl, rfl⟩) ?_
   refine dO rfl rfl rfl (op_indexAddr rfl Tryz.underlying139 sz144 (by decide) rfl rfl rfl (show _ = some (encR encX x) from rfl) ⟨rfl, rfl⟩) ?_
   refine dO rfl rfl rfl (op_fieldAddr_sptr rfl rfl fo144_0 ⟨rfl, rfl⟩) <| dO rfl rfl rfl (op_load_sptr rfl rfl ta9 rfl ⟨rfl, rfl⟩) <| dOps_op rfl rfl (.cons (op_call rfl rfl rfl hcc (hcmp y.1 x.1 _)) .nil) <| dO rfl rfl rfl (op_cmp rfl rfl rfl rfl ⟨rfl, rfl⟩) <| dO rfl rfl rfl (op_pick rfl rfl rfl ⟨rfl, rfl⟩) <| dO rfl rfl rfl (op_assign rfl rfl ⟨rfl, rfl⟩) <| dOps_nil ?_
   refine mwp_cond_split rfl (fun h58 => ?_) (fun h58 => ?_)
   ·
    have hgt : cmp y.1 x.1 < 0 := by simpa using h58
    have hst : stepE cmp (x :: ra, y :: rb) = (x :: ra, rb) := by rw [stepE, if_neg hlt, if_pos hgt]
    rw [mergeE, if_neg hlt, if_pos hgt] at he
    obtain ⟨hy, hnx⟩ := drop_cons_get he
    replace hy : ((mergeE cmp a b).map fun e => [encE encX e])[j]? = some [encE encX (y.1, y.2, none)] := by rw [List.getElem?_map, hy]; rfl
    have hjl := (List.getElem?_eq_some_iff.1 hy).1
    have hUB : U j = (T j).set idb (.cells [.lst none 3 (rb.map (encR encX))]) := by rw [hU, hst, set_self_ hA]
    refine mwp_draw [5, 6] [_, (T j ++ J) ++ [.cells [encX y.1, .sptr (encV y.2).cells, .ptr0]], (U j ++ J) ++ [.cells [encX y.1, .sptr (encV y.2).cells, .ptr0]]] mo (by decide) rfl rfl rfl rfl ?_
    refine dO rfl rfl rfl (op_load_ref rfl rfl (by first | exact get_app (get_app hB) | exact get_app hB | exact get_app (get_app (get_ne hab hB))) ta139 rfl ⟨rfl, rfl⟩) ?_
    refine dO rfl rfl rfl (op_indexAddr rfl Tryz.underlying139 sz144 (by decide) rfl rfl rfl (show _ = some (encR encX y) from rfl) ⟨rfl, rfl⟩) ?_
    refine dO rfl rfl rfl (op_load_sptr rfl rfl ta144 rfl ⟨rfl, rfl⟩) <| dOps_op rfl rfl (.cons (op_load_ref rfl rfl (by first | exact get_app (get_app hB) | exact get_app hB | exact get_app (get_app (get_ne hab hB))) ta139 rfl ⟨rfl, rfl⟩) (.cons (op_load_ref rfl rfl (by first | exact get_app (get_app hB) | exact get_app hB | exact get_app (get_app (get_ne hab hB))) ta139 rfl ⟨rfl, rfl⟩) (.nil))) ?_
    refine dOps_op rfl rfl (.cons (op_slice rfl Tryz.underlying139 sz144 rfl (.some rfl rfl) .none (by simp) (by simp) ⟨rfl, rfl⟩) (.cons (op_slice rfl Tryz.underlying139 sz144 rfl (.some rfl rfl) .none (by simp) (by simp) ⟨rfl, rfl⟩) (.nil))) ?_
    rw [drop1]
    refine dOps_eff rfl rfl rfl rfl (op_store_last rfl rfl rfl sz144 rfl rfl (Nat.le_of_ble_eq_true rfl) ⟨rfl, rfl⟩) <| dOps_eff rfl rfl rfl rfl (op_store_box rfl rfl rfl (by first | exact hB | exact get_ne hab hB) sz139 rfl rfl (Nat.le_of_ble_eq_true rfl) ⟨rfl, by rw [hUB]; rfl⟩) ?_
    refine dOps_nil <| mwp_seq ?_
    rcases Nat.lt_or_eq_of_le hj with hjm | hjm
    ·
     refine qR rfl <| qM rfl rfl rfl <| qO rfl <| op_load_ref rfl rfl (get_last2 hlT) ta144 rfl <| qO rfl <| (hyt j _ hjm hy).at2 rfl rfl rfl <| qO rfl <| op_not rfl rfl <| qN <| mwp_cond_f rfl (rfl) <| mwp_skip ?_
     refine ⟨⟨j + 1, J ++ [_]⟩, by dsimp only; omega, ⟨by dsimp only; omega, by dsimp only; rw [restE, hR, hst]; exact hnx⟩, List.append_assoc .., (.keep rfl (.keep rfl (.keep rfl (.keep rfl (.nil))))), (.nil)⟩
    ·
     refine qR rfl <| qM rfl rfl rfl <| qO rfl <| op_load_ref rfl rfl (get_last2 hlT) ta144 rfl <| qO rfl <| (hyf j _ hjm hy).at2 rfl rfl rfl <| qO rfl <| op_not rfl rfl <| qN <| mwp_cond_t rfl (rfl) <| mwp_ret ?_
     rw [List.append_assoc]
     exact ret_noneS (S' := T (j + 1)) (by simp) Tryz.results140 (by rw [(hok _).1, (hok _).1]; exact Nat.le_refl _) (hok _).2 ⟨rfl, by rw [hjm, if_pos (by omega)]⟩
   ·
    have hgt : ¬ cmp y.1 x.1 < 0 := by simpa using h58
    have hst : stepE cmp (x :: ra, y :: rb) = (ra, rb) := by rw [stepE, if_neg hlt, if_neg hgt]
    rw [mergeE, if_neg hlt, if_neg hgt] at he
    obtain ⟨hy, hnx⟩ := drop_cons_get he
    replace hy : ((mergeE cmp a b).map fun e => [encE encX e])[j]? = some [encE encX (x.1, x.2, some y.2)] := by rw [List.getElem?_map, hy]; rfl
    have hjl := (List.getElem?_eq_some_iff.1 hy).1
    have hUC : U j = ((T j).set ida (.cells [.lst none 3 (ra.map (encR encX))])).set idb (.cells [.lst none 3 (rb.map (encR encX))]) := by rw [hU, hst]
    refine mwp_draw [17, 18, 19] [_, (T j ++ J) ++ [.cells [encX x.1, .sptr (encV x.2).cells, .sptr (encV y.2).cells]], ((T j).set ida (.cells [.lst none 3 (ra.map (encR encX))]) ++ J) ++ [.cells [encX x.1, .sptr (encV x.2).cells, .sptr (encV y.2).cells]], (U j ++ J) ++ [.cells [encX x.1, .sptr (encV x.2).cells, .sptr (encV y.2).cells]]] mo (by decide) rfl rfl rfl rfl ?_
    refine dO rfl rfl rfl (op_load_ref rfl rfl (by first | exact get_app (get_app hA) | exact get_app hA) ta139 rfl ⟨rfl, rfl⟩) ?_
    refine dO rfl rfl rfl (op_indexAddr rfl Tryz.underlying139 sz144 (by decide) rfl rfl rfl (show _ = some (encR encX x) from rfl) ⟨rfl, rfl⟩) ?_
    refine dO rfl rfl rfl (op_fieldAddr_sptr rfl rfl fo144_0 ⟨rfl, rfl⟩) <| dO rfl rfl rfl (op_load_sptr rfl rfl ta9 rfl ⟨rfl, rfl⟩) <| dO rfl rfl rfl (op_load_ref rfl rfl (by first | exact get_app (get_app hA) | exact get_app hA) ta139 rfl ⟨rfl, rfl⟩) ?_
    refine dO rfl rfl rfl (op_indexAddr rfl Tryz.underlying139 sz144 (by decide) rfl rfl rfl (show _ = some (encR encX x) from rfl) ⟨rfl, rfl⟩) ?_
    refine dO rfl rfl rfl (op_fieldAddr_sptr rfl rfl fo144_1 ⟨rfl, rfl⟩) <| dO rfl rfl rfl (op_load_sptr rfl rfl ta142 rfl ⟨rfl, rfl⟩) <| dO rfl rfl rfl (op_load_ref rfl rfl (by first | exact get_app (get_app hB) | exact get_app hB | exact get_app (get_app (get_ne hab hB))) ta139 rfl ⟨rfl, rfl⟩) ?_
    refine dO rfl rfl rfl (op_indexAddr rfl Tryz.underlying139 sz144 (by decide) rfl rfl rfl (show _ = some (encR encX y) from rfl) ⟨rfl, rfl⟩) ?_
    refine dO rfl rfl rfl (op_fieldAddr_sptr rfl rfl fo144_1 ⟨rfl, rfl⟩) <| dO rfl rfl rfl (op_load_sptr rfl rfl ta142 rfl ⟨rfl, rfl⟩) <| dO rfl rfl rfl (op_build rfl Tryz.underlying144 zm144 (.cons fo144_0 sz9 rfl rfl (Nat.le_of_ble_eq_true rfl) (.cons fo144_1 sz142 rfl rfl (Nat.le_of_ble_eq_true rfl) (.cons fo144_2 sz142 rfl rfl (Nat.le_of_ble_eq_true rfl) .nil))) (by kernel_rfl) ⟨rfl, rfl⟩) ?_
    refine dOps_op rfl rfl (.cons (op_load_ref rfl rfl (by first | exact get_app (get_app hA) | exact get_app hA) ta139 rfl ⟨rfl, rfl⟩) (.cons (op_load_ref rfl rfl (by first | exact get_app (get_app hA) | exact get_app hA) ta139 rfl ⟨rfl, rfl⟩) (.nil))) ?_
    refine dOps_op rfl rfl (.cons (op_slice rfl Tryz.underlying139 sz144 rfl (.some rfl rfl) .none (by simp) (by simp) ⟨rfl, rfl⟩) (.cons (op_slice rfl Tryz.underlying139 sz144 rfl (.some rfl rfl) .none (by simp) (by simp) ⟨rfl, rfl⟩) (.nil))) ?_
    rw [drop1]
    refine dOps_op rfl rfl (.cons (op_load_ref rfl rfl (by first | exact get_app (get_app hB) | exact get_app hB | exact get_app (get_app (get_ne hab hB))) ta139 rfl ⟨rfl, rfl⟩) (.cons (op_load_ref rfl rfl (by first | exact get_app (get_app hB) | exact get_app hB | exact get_app (get_app (get_ne hab hB))) ta139 rfl ⟨rfl, rfl⟩) (.cons (op_load_ref rfl rfl (by first | exact get_app (get_app hB) | exact get_app hB | exact get_app (get_app (get_ne hab hB))) ta139 rfl ⟨rfl, rfl⟩) (.nil)))) ?_
    refine dOps_op rfl rfl (.cons (op_slice rfl Tryz.underlying139 sz144 rfl (.some rfl rfl) .none (by simp) (by simp) ⟨rfl, rfl⟩) (.cons (op_slice rfl Tryz.underlying139 sz144 rfl (.some rfl rfl) .none (by simp) (by simp) ⟨rfl, rfl⟩) (.cons (op_slice rfl Tryz.underlying139 sz144 rfl (.some rfl rfl) .none (by simp) (by simp) ⟨rfl, rfl⟩) (.nil)))) ?_
    rw [drop1]
    refine dOps_eff rfl rfl rfl rfl (op_store_last rfl rfl rfl sz144 rfl rfl (Nat.le_of_ble_eq_true rfl) ⟨rfl, rfl⟩) <| dOps_eff rfl rfl rfl rfl (op_store_box rfl rfl rfl (hA) sz139 rfl rfl (Nat.le_of_ble_eq_true rfl) ⟨rfl, rfl⟩) <| dOps_eff rfl rfl rfl rfl (op_store_box rfl rfl rfl (by first | exact hB | exact get_ne hab hB) sz139 rfl rfl (Nat.le_of_ble_eq_true rfl) ⟨rfl, by rw [hUC]; rfl⟩) ?_
    refine dOps_nil <| mwp_seq ?_
    rcases Nat.lt_or_eq_of_le hj with hjm | hjm
    ·
     refine qR rfl <| qM rfl rfl rfl <| qO rfl <| op_load_ref rfl rfl (get_last2 hlT) ta144 rfl <| qO rfl <| (hyt j _ hjm hy).at2 rfl rfl rfl <| qO rfl <| op_not rfl rfl <| qN <| mwp_cond_f rfl (rfl) <| mwp_skip ?_
     refine ⟨⟨j + 1, J ++ [_]⟩, by dsimp only; omega, ⟨by dsimp only; omega, by dsimp only; rw [restE, hR, hst]; exact hnx⟩, List.append_assoc .., (.keep rfl (.keep rfl (.keep rfl (.keep rfl (.nil))))), (.nil)⟩
    ·
     refine qR rfl <| qM rfl rfl rfl <| qO rfl <| op_load_ref rfl rfl (get_last2 hlT) ta144 rfl <| qO rfl <| (hyf j _ hjm hy).at2 rfl rfl rfl <| qO rfl <| op_not rfl rfl <| qN <| mwp_cond_t rfl (rfl) <| mwp_ret ?_
     rw [List.append_assoc]
     exact ret_noneS (S' := T (j + 1)) (by simp) Tryz.results140 (by rw [(hok _).1, (hok _).1]; exact Nat.le_refl _) (hok _).2 ⟨rfl, by rw [hjm, if_pos (by omega)]⟩
end Go.Proofs.YtnfcnpdpfgcchaaGreat
end
section
set_option linter.unusedVariables false
set_option linter.unusedSimpArgs false
set_option maxRecDepth 20000
set_option maxHeartbeats 400000
namespace Go.Proofs.YtnfcnpdpfgcchaaGreat
open Go Go.MV
theorem set4 {S : MS} {i k : Nat} {a b c d : MObj} (h : i ≠ k) : (S.set i c).set k d = (((S.set i a).set k b).set i c).set k d := by
 rw [List.set_comm a b h, List.set_set, List.set_comm b c h.symm, List.set_set]
theorem stJ_cl {cmp : List Tk → List Tk → Int} {a b : List (REnt (List Tk))} {S L : MS} {ida idb j n : Nat} (hcl : ClS (S ++ L)) (hn : (S ++ L).length ≤ n) {o : MObj} (ho : o ∈ (S.set ida (.cells [.lst none 3 ((restE cmp a b j).1.map (encR encC))])).set idb (.cells [.lst none 3 ((restE cmp a b j).2.map (encR encC))])) : o.cl n := by
 have hr : ∀ l : List (REnt (List Tk)), (MObj.cells [.lst none 3 (l.map (encR encC))]).cl n := fun l x hx => by
  simp at hx
  subst hx
  exact cl_lst (cl_encR (fun n k => cl_encC n k) _) (fun _ => .inl rfl)
 rcases List.mem_or_eq_of_mem_set ho with ho | rfl
 ·rcases List.mem_or_eq_of_mem_set ho with ho | rfl
  ·obtain ⟨i, hi⟩ := List.getElem?_of_mem ho
   have := hcl i o (get_app hi)
   cases o with
   | cells l => exact fun x hx => (this x hx).mono hn
   | loop s p ls => exact fun t x hx => (this t x hx).mono hn
   | row _ _ _ => exact trivial
   | mp es => exact fun e he => (this e he).mono hn
   | pin _ _ => exact trivial
   | tcells _ l => exact fun x hx => (this x hx).mono hn
   | orow _ _ _ l => exact fun x hx => (this x hx).mono hn
   | fixed _ _ => exact trivial
   | gone => exact trivial
  ·exact hr _
 ·exact hr _
theorem stJ_ClS {cmp : List Tk → List Tk → Int} {a b : List (REnt (List Tk))} {S : MS} {ida idb j : Nat} (hcl : ClS (S ++ [])) : ClS ((S.set ida (.cells [.lst none 3 ((restE cmp a b j).1.map (encR encC))])).set idb (.cells [.lst none 3 ((restE cmp a b j).2.map (encR encC))])) := fun i o hi => stJ_cl hcl (by simp) (List.mem_of_getElem? hi)
theorem own_cl {A : MS} {t n ty k : Nat} {xs : List (Ent (List Tk))} (hA : ∀ n, t + 1 ≤ n → ∀ o, o ∈ A → o.cl n) (hn : t + 1 ≤ n) {o : MObj} (ho : o ∈ A ++ [.cells [.lst (some t) 3 (xs.map (encE encC))], .row ty 3 k]) : o.cl n := by
 rcases List.mem_append.1 ho with ho | ho
 ·exact hA n hn o ho
 ·simp only [List.mem_cons, List.not_mem_nil, or_false] at ho
  rcases ho with rfl | rfl
  ·intro x hx
   simp at hx
   subst hx
   exact cl_lstT (by omega) (cl_encE (fun n k => cl_encC n k) _) (fun _ => .inl rfl)
  ·exact trivial
theorem encR_one {κ : Type} (ek : κ → MV) (e : REnt κ) : encR ek e = .agg (encR ek e).cells ∨ [encR ek e] = (encR ek e).cells := .inl rfl
theorem encE_one {κ : Type} (ek : κ → MV) (e : Ent κ) : encE ek e = .agg (encE ek e).cells ∨ [encE ek e] = (encE ek e).cells := .inl rfl
theorem zip_succ {α β : Type} {a : List α} {b : List β} {i : Nat} {x : α} {y : β} (hx : a[i]? = some x) (hy : b[i]? = some y) : (a.zip b).take (i + 1) = (a.zip b).take i ++ [(x, y)] := by
 have h : (a.zip b)[i]? = some (x, y) := List.getElem?_zip_eq_some.2 ⟨hx, hy⟩
 rw [List.take_add_one, h]
 rfl
theorem cmerged_spec (a b : List (REnt (List Tk))) (kc : FuncId) (S : MS) : MCalls Tryz.prog 127 [.lst none 3 (a.map (encR encC)), .lst none 3 (b.map (encR encC)), .fn (.func kc) [] []] S fun v σ' => v = .fn (.func 143) [] [.ref S.length 0, .ref (S.length + 1) 0, .ref (S.length + 2) 0] ∧ σ' = S ++ [.cells [.lst none 3 (a.map (encR encC))], .cells [.lst none 3 (b.map (encR encC))], .cells [.fn (.func kc) [] []]] := by
 refine mcalls_body Tryz.func127 rfl Tryz.ntmps127 (Nat.le_of_ble_eq_true rfl) ?_
 refine mwp_seq <| qR rfl <| qB rfl rfl rfl rfl rfl <| qB rfl rfl rfl rfl rfl <| qB rfl rfl rfl rfl rfl <| qA rfl rfl rfl <| qN <| mwp_seq <| qR rfl <| qO rfl <| op_makeFunc rfl rfl rfl <| qA rfl rfl rfl <| qN ?_
 refine mwp_facts fun hcv hcl => ?_
 refine mwp_ret ?_
 exact ret_tmpT (.inr rfl) Tryz.results127 rfl (.refl _) (hcv 6 _ rfl) (by simp) hcl ⟨rfl, rfl⟩
theorem crow_spec (keys : List (List Tk)) (vals : List Val) (hkv : keys.length = vals.length) (hk : keys.length ≤ 1000) (S : MS) : MCalls Tryz.prog 128 [.lst none 1 (keys.map encC), .lst none 5 (encVs vals)] S fun v σ' => v = .lst none 3 ((keys.zip vals).map (encR encC)) ∧ σ' = S := by
 refine mcalls_body Tryz.func128 rfl Tryz.ntmps128 (Nat.le_of_ble_eq_true rfl) ?_
 refine mwp_len (t := 0) rfl fun hlen => ?_
 rw [List.length_map] at hlen
 refine mwp_seq <| qR rfl <| qA rfl rfl rfl <| qN <| mwp_seq <| qR rfl <| qA rfl rfl rfl <| qN <| mwp_seq <| mwp_seq <| qR rfl <| qM rfl rfl rfl <| qE rfl rfl Tryz.underlying27 rfl <| qM rfl rfl rfl <| qN <| mwp_block <| mwp_row0 5 149 3 rfl (Nat.le_refl _) rfl rfl ?_
 refine mwp_loopKJ (α := Nat) [(1, _), (8, _), (9, _)] (fun i => [(10, .int .i64 (i : Int)), (5, .lst (some (S.length + 0)) 3 (((keys.zip vals).take i).map (encR encC)))]) (fun i => [.row 149 3 ((keys.zip vals).take i).length]) (fun i => i ≤ keys.length) (fun i => keys.length - i) (0) (Nat.le_refl _) (.keep rfl (.keep rfl (.keep rfl (.nil)))) (.keep rfl (.keep rfl (.nil))) (by omega) (rfl) ?_
 rintro i hi
 have hzl : ((keys.zip vals).take i).length ≤ 1000 := by rw [List.length_take, List.length_zip]; omega
 refine mwp_seq <| qR rfl <| qC rfl rfl rfl rfl rfl <| qN <| mwp_seq ?_
 refine mwp_cond_split rfl (fun h11 => ?_) (fun h11 => ?_)
 ·
  have hlt : i < keys.length := by simpa using h11
  obtain ⟨k, hs⟩ : ∃ q_, keys[i]? = some q_ := ⟨_, List.getElem?_eq_getElem hlt⟩
  obtain ⟨v, hs2⟩ : ∃ q, vals[i]? = some q := ⟨_, List.getElem?_eq_getElem (by omega)⟩
  refine mwp_skip <| mwp_seq <| mwp_block <| mwp_seq <| qR rfl <| qM rfl rfl rfl <| qO rfl <| op_indexAddr rfl Tryz.underlying27 sz55 (by decide) rfl rfl rfl (get_map hs) ?_
  refine qO rfl <| op_load_sptr rfl rfl ta55 rfl <| qA rfl rfl rfl <| qA rfl rfl rfl <| qN <| qR rfl <| qM rfl rfl rfl <| qM rfl rfl rfl <| qM rfl rfl rfl <| qM rfl rfl rfl <| qO rfl <| op_indexAddr rfl Tryz.underlying28 sz30 (by decide) rfl rfl rfl (encVs_get hs2) ?_
  refine qO rfl <| op_build rfl Tryz.underlying149 zm149 (.cons fo149_0 sz55 rfl rfl (Nat.le_of_ble_eq_true rfl) (.cons fo149_1 sz142 rfl rfl (Nat.le_of_ble_eq_true rfl) .nil)) (by kernel_rfl) ?_
  refine qO rfl <| op_buildSlice rfl Tryz.underlying146 el149 rfl rfl (by decide) (by decide) rfl rfl ?_
  refine qO rfl <| op_append' rfl Tryz.underlying146 el149 rfl rfl rfl (by simp) (by simp only [List.length_map, List.length_cons, List.length_nil]; omega) (by simp only [List.length_map, List.length_cons, List.length_nil]; omega) rfl ?_
  refine qA rfl rfl rfl <| qN <| qR rfl <| qO rfl <| op_arith rfl rfl rfl rfl <| qM rfl rfl rfl <| qN ?_
  refine ⟨i + 1, _, by omega, by omega, by rw [zip_succ hs hs2, List.length_append]; rfl, .new trivial .nil, (.old rfl rfl (.old rfl rfl (.old rfl rfl (.nil)))), (.new' rfl (int_succ hlt hlen) (.int _ _) (.new' rfl (by rw [zip_succ hs hs2, List.map_append]; rfl) (cl_lstT (by simp) (cl_encR (fun n k => cl_encC n k) _) (encR_one _)) (.nil)))⟩
 ·
  have hge : i = keys.length := by simp at h11; omega
  refine mwp_exit <| mwp_seq <| qR rfl <| qM rfl rfl rfl <| qA rfl rfl rfl <| qN <| mwp_ret ?_
  exact ret_tmp (.inr rfl) Tryz.results128 rfl (Sub.trans (.view _ _ _) (.of_eq (by rw [hge, List.take_of_length_le (by rw [List.length_zip]; omega)]))) (cl_lst (cl_encR (fun n k => cl_encC n k) _) (encR_one _)) ⟨rfl, rfl⟩
theorem xmerged_spec (a b : List (REnt (Bs))) (kc : FuncId) (S : MS) : MCalls Tryz.prog 122 [.lst none 3 (a.map (encR encX)), .lst none 3 (b.map (encR encX)), .fn (.func kc) [] []] S fun v σ' => v = .fn (.func 140) [] [.ref S.length 0, .ref (S.length + 1) 0, .ref (S.length + 2) 0] ∧ σ' = S ++ [.cells [.lst none 3 (a.map (encR encX))], .cells [.lst none 3 (b.map (encR encX))], .cells [.fn (.func kc) [] []]] := by
 refine mcalls_body Tryz.func122 rfl Tryz.ntmps122 (Nat.le_of_ble_eq_true rfl) ?_
 refine mwp_seq <| qR rfl <| qB rfl rfl rfl rfl rfl <| qB rfl rfl rfl rfl rfl <| qB rfl rfl rfl rfl rfl <| qA rfl rfl rfl <| qN <| mwp_seq <| qR rfl <| qO rfl <| op_makeFunc rfl rfl rfl <| qA rfl rfl rfl <| qN ?_
 refine mwp_facts fun hcv hcl => ?_
 refine mwp_ret ?_
 exact ret_tmpT (.inr rfl) Tryz.results122 rfl (.refl _) (hcv 6 _ rfl) (by simp) hcl ⟨rfl, rfl⟩
theorem xrow_spec (keys : List (Bs)) (vals : List Val) (hkv : keys.length = vals.length) (hk : keys.length ≤ 1000) (S : MS) : MCalls Tryz.prog 123 [.lst none 1 (keys.map encX), .lst none 5 (encVs vals)] S fun v σ' => v = .lst none 3 ((keys.zip vals).map (encR encX)) ∧ σ' = S := by
 refine mcalls_body Tryz.func123 rfl Tryz.ntmps123 (Nat.le_of_ble_eq_true rfl) ?_
 refine mwp_len (t := 0) rfl fun hlen => ?_
 rw [List.length_map] at hlen
 refine mwp_seq <| qR rfl <| qA rfl rfl rfl <| qN <| mwp_seq <| qR rfl <| qA rfl rfl rfl <| qN <| mwp_seq <| mwp_seq <| qR rfl <| qM rfl rfl rfl <| qE rfl rfl Tryz.underlying26 rfl <| qM rfl rfl rfl <| qN <| mwp_block <| mwp_row0 5 144 3 rfl (Nat.le_refl _) rfl rfl ?_
 refine mwp_loopKJ (α := Nat) [(1, _), (8, _), (9, _)] (fun i => [(10, .int .i64 (i : Int)), (5, .lst (some (S.length + 0)) 3 (((keys.zip vals).take i).map (encR encX)))]) (fun i => [.row 144 3 ((keys.zip vals).take i).length]) (fun i => i ≤ keys.length) (fun i => keys.length - i) (0) (Nat.le_refl _) (.keep rfl (.keep rfl (.keep rfl (.nil)))) (.keep rfl (.keep rfl (.nil))) (by omega) (rfl) ?_
 rintro i hi
 have hzl : ((keys.zip vals).take i).length ≤ 1000 := by rw [List.length_take, List.length_zip]; omega
 refine mwp_seq <| qR rfl <| qC rfl rfl rfl rfl rfl <| qN <| mwp_seq ?_
 refine mwp_cond_split rfl (fun h11 => ?_) (fun h11 => ?_)
 ·
  have hlt : i < keys.length := by simpa using h11
  obtain ⟨k, hs⟩ : ∃ q_, keys[i]? = some q_ := ⟨_, List.getElem?_eq_getElem hlt⟩
  obtain ⟨v, hs2⟩ : ∃ q, vals[i]? = some q := ⟨_, List.getElem?_eq_getElem (by omega)⟩
  refine mwp_skip <| mwp_seq <| mwp_block <| mwp_seq <| qR rfl <| qM rfl rfl rfl <| qO rfl <| op_indexAddr rfl Tryz.underlying26 sz9 (by decide) rfl rfl rfl (get_map hs) ?_
  refine qO rfl <| op_load_sptr rfl rfl ta9 rfl <| qA rfl rfl rfl <| qA rfl rfl rfl <| qN <| qR rfl <| qM rfl rfl rfl <| qM rfl rfl rfl <| qM rfl rfl rfl <| qM rfl rfl rfl <| qO rfl <| op_indexAddr rfl Tryz.underlying28 sz30 (by decide) rfl rfl rfl (encVs_get hs2) ?_
  refine qO rfl <| op_build rfl Tryz.underlying144 zm144 (.cons fo144_0 sz9 rfl rfl (Nat.le_of_ble_eq_true rfl) (.cons fo144_1 sz142 rfl rfl (Nat.le_of_ble_eq_true rfl) .nil)) (by kernel_rfl) ?_
  refine qO rfl <| op_buildSlice rfl Tryz.underlying139 el144 rfl rfl (by decide) (by decide) rfl rfl ?_
  refine qO rfl <| op_append' rfl Tryz.underlying139 el144 rfl rfl rfl (by simp) (by simp only [List.length_map, List.length_cons, List.length_nil]; omega) (by simp only [List.length_map, List.length_cons, List.length_nil]; omega) rfl ?_
  refine qA rfl rfl rfl <| qN <| qR rfl <| qO rfl <| op_arith rfl rfl rfl rfl <| qM rfl rfl rfl <| qN ?_
  refine ⟨i + 1, _, by omega, by omega, by rw [zip_succ hs hs2, List.length_append]; rfl, .new trivial .nil, (.old rfl rfl (.old rfl rfl (.old rfl rfl (.nil)))), (.new' rfl (int_succ hlt hlen) (.int _ _) (.new' rfl (by rw [zip_succ hs hs2, List.map_append]; rfl) (cl_lstT (by simp) (cl_encR (fun n k => cl_encX n k) _) (encR_one _)) (.nil)))⟩
 ·
  have hge : i = keys.length := by simp at h11; omega
  refine mwp_exit <| mwp_seq <| qR rfl <| qM rfl rfl rfl <| qA rfl rfl rfl <| qN <| mwp_ret ?_
  exact ret_tmp (.inr rfl) Tryz.results123 rfl (Sub.trans (.view _ _ _) (.of_eq (by rw [hge, List.take_of_length_le (by rw [List.length_zip]; omega)]))) (cl_lst (cl_encR (fun n k => cl_encX n k) _) (encR_one _)) ⟨rfl, rfl⟩
theorem set2_app {A O C : MS} {i k : Nat} {a b a0 b0 : MObj} (hA : A[i]? = some a0) (hB : A[k]? = some b0) (hne : i ≠ k) : ((([] ++ (A ++ O)) ++ C).set i a).set k b = ([] ++ (((A.set i a).set k b) ++ O)) ++ C := by
 rw [List.nil_append, List.nil_append, set_app (get_app hA), set_app hA, set_app (get_app (get_ne hne hB)), set_app (get_ne hne hB)]
theorem get_nil_app {A : MS} {i : Nat} {o : MObj} (h : A[i]? = some o) : (([] : MS) ++ A)[i]? = some o := h
def stJ (cmp : List Tk → List Tk → Int) (a b : List (REnt (List Tk))) (S : MS) (ida idb j : Nat) : MS := (S.set ida (.cells [.lst none 3 ((restE cmp a b j).1.map (encR encC))])).set idb (.cells [.lst none 3 ((restE cmp a b j).2.map (encR encC))])
theorem stJ_len {cmp : List Tk → List Tk → Int} {a b : List (REnt (List Tk))} {S : MS} {ida idb j : Nat} : (stJ cmp a b S ida idb j).length = S.length := by simp [stJ]
theorem cl_entC (n : Nat) (e : Ent (List Tk)) : Cl n (encE encC e) := cl_encE (fun n k => cl_encC n k) n e
theorem appendSeq_spec (a b : List (REnt (List Tk))) (hab : a.length + b.length ≤ 1000) (kc : FuncId) (cmp : List Tk → List Tk → Int) (hcc : CallOk Tryz.prog kc) (hcmp : ∀ (k1 k2 : List Tk) (S : MS), MCalls Tryz.prog kc ([] ++ [encC k1, encC k2] ++ []) S fun v σ' => v = .int .i64 (cmp k1 k2) ∧ σ' = S) (ida idb idc : Nat) (hne : ida ≠ idb) (hnc : ida ≠ idc) (hnd : idb ≠ idc) (S : MS) (hA : S[ida]? = some (.cells [.lst none 3 (a.map (encR encC))])) (hB : S[idb]? = some (.cells [.lst none 3 (b.map (encR encC))])) (hC : S[idc]? = some (.cells [.fn (.func kc) [] []])) : MCalls Tryz.prog 142 [.lst0, .fn (.func 143) [] [.ref ida 0, .ref idb 0, .ref idc 0]] S fun v σ' => v = .lst none 3 ((mergeE cmp a b).map (encE encC)) ∧ σ' = stJ cmp a b S ida idb (mergeE cmp a b).length := by
 refine mcalls_body Tryz.func142 rfl Tryz.ntmps142 (Nat.le_of_ble_eq_true rfl) ?_
 refine mwp_facts fun _ hcl0 => ?_
 refine mwp_seq <| qR rfl <| qB rfl rfl rfl rfl rfl <| qA rfl rfl rfl <| qN <| mwp_seq <| mwp_seq <| qR rfl <| qM rfl rfl rfl <| qN <| mwp_block <| mwp_cellrow 0 149 3 rfl (Nat.le_refl _) rfl rfl ?_
 refine mwp_facts fun _ hcl => ?_
 have hS0 : stJ cmp a b S ida idb 0 = S := by unfold stJ; rw [restE, set_self_ hA, set_self_ hB]
 have hgA : ∀ j, (stJ cmp a b S ida idb j)[ida]? = some (.cells [.lst none 3 ((restE cmp a b j).1.map (encR encC))]) := fun j => by unfold stJ; exact get_ne hne.symm (get_set hA)
 have hgB : ∀ j, (stJ cmp a b S ida idb j)[idb]? = some (.cells [.lst none 3 ((restE cmp a b j).2.map (encR encC))]) := fun j => by unfold stJ; exact get_set (get_ne hne hB)
 have hgC : ∀ j, (stJ cmp a b S ida idb j)[idc]? = some (.cells [.fn (.func kc) [] []]) := fun j => by unfold stJ; exact get_ne hnd (get_ne hnc hC)
 have hstep : ∀ j, stJ cmp a b S ida idb (j + 1) = ((stJ cmp a b S ida idb j).set ida (.cells [.lst none 3 ((restE cmp a b (j + 1)).1.map (encR encC))])).set idb (.cells [.lst none 3 ((restE cmp a b (j + 1)).2.map (encR encC))]) := fun j => by unfold stJ; exact set4 hne
 have hcS : ∀ j n, S.length + 2 ≤ n → ∀ o, o ∈ stJ cmp a b S ida idb j → o.cl n := fun j n hn o ho => stJ_cl hcl (by simpa using hn) ho
 show mwp _ _ _ _ _ _ _ (([] : MS) ++ _)
 refine mwp_rangeC (L0 := _) .ret (.inl rfl) (fun j => true) (fun j => (stJ cmp a b S ida idb j ++ [.cells [.lst (some (S.length + 1)) 3 (((mergeE cmp a b).take j).map (encE encC))], .row 149 3 ((mergeE cmp a b).take j).length] : MS)) (fun j => (stJ cmp a b S ida idb (j + 1) ++ [.cells [.lst (some (S.length + 1)) 3 (((mergeE cmp a b).take j).map (encE encC))], .row 149 3 ((mergeE cmp a b).take j).length] : MS)) (fun j => (stJ cmp a b S ida idb j ++ [.cells [.lst (some (S.length + 1)) 3 (((mergeE cmp a b).take j).map (encE encC))], .row 149 3 ((mergeE cmp a b).take j).length] : MS)) (fun j => by simp [stJ_len]) (fun j => by simp [stJ_len]) (fun j => by simp [stJ_len]) (by rw [hS0]; rfl)
  (fun j o ho n hn => own_cl (hcS j) (by simpa [stJ_len] using hn) ho) (fun j o ho n hn => own_cl (hcS (j + 1)) (by simpa [stJ_len] using hn) ho) (fun j o ho n hn => own_cl (hcS j) (by simpa [stJ_len] using hn) ho) rfl co143 rfl (by simp [stJ_len]) (cmerged_iter cmp kc hcc hcmp a b ida idb idc (S.length + 3) hne) (fun j => by simp [stJ_len]) (fun j hj => ⟨get_app (get_nil_app (get_app (hgA j))), get_app (get_nil_app (get_app (hgB j))), get_app (get_nil_app (get_app (hgC j))), ?_⟩) (fun j s q => by simp [stJ_len]) rfl (fun y hy => by obtain ⟨i, _, rfl⟩ := List.mem_map.1 hy; rfl) ?_ ?_ ?_
 ·exact (congrArg (fun x => (([] : MS) ++ (x ++ _)) ++ _) (hstep j)).trans (set2_app (hgA j) (hgB j) hne).symm
 ·
  intro j y hy hbef L'
  rw [List.getElem?_map] at hy
  obtain ⟨⟨kk, v, o⟩, hp, rfl⟩ := Option.map_eq_some_iff.1 hy
  have htl : ((mergeE cmp a b).take j).length ≤ 1000 := by have := mergeE_len cmp a b; rw [List.length_take]; omega
  have hlj : (stJ cmp a b S ida idb (j + 1)).length = S.length := stJ_len
  refine qR rfl <| qO rfl <| op_alloc rfl zm149 <| qO rfl <| op_store_last rfl rfl rfl sz149 rfl (by cases o <;> rfl) (Nat.le_of_ble_eq_true rfl) ?_
  refine qN ?_
  refine ⟨rfl, [_], rfl, ?_⟩
  rw [List.append_assoc ([] ++ _)]
  show mwp _ _ _ _ _ _ _ ((stJ cmp a b S ida idb (j + 1) ++ _) ++ _)
  refine mwp_abs fun R hR => ?_
  refine mwp_block <| qR rfl <| qO rfl <| op_load_ref rfl rfl (get_o0 hlj) ta146 rfl <| qO rfl <| op_load_ref rfl rfl (by rw [hR]; exact get_rt) ta149 rfl ?_
  refine qO rfl <| op_buildSlice rfl Tryz.underlying146 el149 rfl rfl (by decide) (by decide) rfl (by cases o <;> rfl) ?_
  refine qO rfl <| op_append rfl Tryz.underlying146 el149 rfl rfl (get_o1 hlj) (by simp) (by simp only [List.length_map, List.length_cons, List.length_nil]; omega) (by simp only [List.length_map, List.length_cons, List.length_nil]; omega) ?_
  refine qO rfl <| op_store rfl rfl rfl (get_o0' hlj) sz146 rfl rfl (Nat.le_of_ble_eq_true rfl) <| qN ?_
  exact .inl ⟨rfl, rfl, [_], (set_o01 hlj).trans (by rw [hR, List.take_add_one (l := mergeE cmp a b), hp, Option.toList_some, List.map_append, len_snoc]; exact (List.append_assoc _ _ _).symm)⟩
 ·
  intro _
  rw [List.length_map]
  refine mwp_seq <| qR rfl <| qO rfl <| op_load_ref rfl rfl (get_o0 stJ_len) ta146 rfl <| qA rfl rfl rfl <| qN <| mwp_ret ?_
  show BodyQ _ _ _ _ _ _ ((stJ cmp a b S ida idb (mergeE cmp a b).length ++ _) ++ _)
  rw [List.append_assoc]
  exact ret_tmpS (.inr rfl) Tryz.results142 rfl (Sub.trans (.view _ _ _) (.of_eq (by rw [List.take_length]))) (cl_lst (cl_entC _) (encE_one _)) (by simp [stJ_len]) (stJ_ClS hcl0) ⟨rfl, rfl⟩
 ·
  intro j y hy hp
  cases hp
theorem collect_spec (a b : List (REnt (List Tk))) (hab : a.length + b.length ≤ 1000) (kc : FuncId) (cmp : List Tk → List Tk → Int) (hcc : CallOk Tryz.prog kc) (hcmp : ∀ (k1 k2 : List Tk) (S : MS), MCalls Tryz.prog kc ([] ++ [encC k1, encC k2] ++ []) S fun v σ' => v = .int .i64 (cmp k1 k2) ∧ σ' = S) (ida idb idc : Nat) (hne : ida ≠ idb) (hnc : ida ≠ idc) (hnd : idb ≠ idc) (S : MS) (hA : S[ida]? = some (.cells [.lst none 3 (a.map (encR encC))])) (hB : S[idb]? = some (.cells [.lst none 3 (b.map (encR encC))])) (hC : S[idc]? = some (.cells [.fn (.func kc) [] []])) : MCalls Tryz.prog 126 [.fn (.func 143) [] [.ref ida 0, .ref idb 0, .ref idc 0]] S fun v σ' => v = .lst none 3 ((mergeE cmp a b).map (encE encC)) ∧ σ' = stJ cmp a b S ida idb (mergeE cmp a b).length := by
 refine mcalls_body Tryz.func126 rfl Tryz.ntmps126 (Nat.le_of_ble_eq_true rfl) ?_
 refine mwp_facts fun _ hcl0 => ?_
 rw [List.append_nil]
 rw [List.append_nil] at hcl0
 refine mwp_seq <| qR rfl <| qA rfl rfl rfl <| qN <| mwp_seq <| qR rfl <| qM rfl rfl rfl ?_
 refine wOps_op rfl (op_call rfl rfl rfl co142 ((appendSeq_spec a b hab kc cmp hcc hcmp ida idb idc hne hnc hnd S hA hB hC).mono ?_))
 rintro _ _ ⟨rfl, rfl⟩
 refine qA rfl rfl rfl <| qN <| mwp_ret ?_
 exact ret_tmpT (.inr rfl) Tryz.results126 rfl (.refl _) (cl_lst (cl_entC _) (encE_one _)) (by simp [stJ_len]) (stJ_ClS (by rw [List.append_nil]; exact hcl0)) ⟨rfl, rfl⟩
end Go.Proofs.YtnfcnpdpfgcchaaGreat
end
section
set_option linter.unusedVariables false
set_option linter.unusedSimpArgs false
namespace Go.MV
open Go Go.RowKit
section
variable {P : Program} {rd : Option Nat} {o : Oper} {env : Env} {σ : MS} {K : MV → MS → Prop}
theorem op_ext {f : Operand} {args : Array Operand} {ts : Array TypeId} {k : FuncId} {xs : List MV} {vz : Value} {mz : MV} (ho : o.op = .call { callee := .value f, args := args, argTypes := ts }) (hf : evo env f = some (.fn (.func k) [] [])) (hx : evos env args.toList = some xs)
    (hrun : ∀ (g : Gh) (w : World) (vs : List Value), Rds g w xs vs → (callFunc k vs.toArray).run P w = .ok (.value vz) w) (hz : constMV vz = some mz) (h : K mz σ) : OpWp P rd o env σ K := by
  refine OpWp.of_run (by simp [ho]) fun g w a hr hop => ?_
  obtain ⟨us, vs, e, k1, k2⟩ := (hop f (by simp [ho, Op.operands, Call.operands]) _ hf).inv_fn
  have k3 : Rds g w xs (args.toList.map a.eval) := evos_rds (fun x hx m hm => hop x (by simp [ho, Op.operands, Call.operands]; exact .inr (by simpa using hx)) m hm) hx
  have e1 : us = [] := List.eq_nil_of_length_eq_zero k1.1
  have e2 : vs = [] := List.eq_nil_of_length_eq_zero k2.1
  subst e1 e2
  refine ⟨vz, w, ?_, .same h hr (constMV_rd _ _ hz)⟩
  have := hrun g w _ k3
  rw [← Array.toList_map, Array.toArray_toList] at this
  simp [execOp, ho, resolve, e, Deferred.ofValue, invoke, this]
theorem op_max3 {ts : Array TypeId} {x y z : Operand} {k : IntKind} {l m n r : Int} (ho : o.op = .call { callee := .builtin .max, args := #[x, y, z], argTypes := ts }) (hx : evo env x = some (.int k l)) (hy : evo env y = some (.int k m)) (hz : evo env z = some (.int k n)) (e : max (max l m) n = r) (h : K (.int k r) σ) : OpWp P rd o env σ K := by
  refine OpWp.of_run (by simp [ho]) fun g w a hr hop => ?_
  have e1 := (hop x (by simp [ho, Op.operands, Call.operands]) _ hx).inv_int
  have e2 := (hop y (by simp [ho, Op.operands, Call.operands]) _ hy).inv_int
  have e3 := (hop z (by simp [ho, Op.operands, Call.operands]) _ hz).inv_int
  have hm : ∀ a b : Int, (if b > a then b else a) = max a b := fun a b => by split <;> omega
  refine ⟨.int k r, w, ?_, .same h hr (.int _ _)⟩
  simp [execOp, ho, resolve, invoke, builtin, Builtin.max_, Builtin.max2, e1, e2, e3, hm, e]
end
abbrev cmpX (a b : Bs) : Int := Go.Lib.compareBytes a b
theorem run_cmpstr {P : Program} {k : FuncId} {fn : Func} (hf : P.funcs[k]? = some fn) (hname : (fn.name == "runtime.NumGoroutine") = false) (hb : fn.body.isNone = true) (hn : Extern.findNext fn = none) (he : Extern.find fn = some Extern.BytealgCompare.compare) (a b : Bs) (g : Gh) (w : World) (vs : List Value) (h : Rds g w [.str (bs a), .str (bs b)] vs) :
    (callFunc k vs.toArray).run P w = .ok (.value (.int .i64 (cmpX a b))) w := by
  obtain ⟨u, us, rfl, h1, h2⟩ := h.uncons
  obtain ⟨u2, us2, rfl, h3, h4⟩ := h2.uncons
  have e1 := h1.inv_str
  have e2 := h3.inv_str
  have e3 : us2 = [] := List.eq_nil_of_length_eq_zero h4.1
  subst e1 e2 e3
  rw [run_callFunc_extern hf hname hb hn he, Go.Lib.run_compareString]
  rfl
end Go.MV
end
section
set_option linter.unusedVariables false
set_option linter.unusedSimpArgs false
namespace Go.Proofs.YtnfcnpdpfgcchaaGreat
open Go Go.MV Go.RowKit
section
variable {κ : Type}
def ofE (f : Val → Val → Option Val) (e : Ent κ) : Option Val := match e.2.2 with | none => some e.2.1 | some w => f e.2.1 w
def goE (f : Val → Val → Option Val) : List (Ent κ) → Option (List (κ × Val))
  | [] => some []
  | e :: l => match ofE f e with | none => none | some v => (goE f l).map ((e.1, v) :: ·)
theorem goE_append (f : Val → Val → Option Val) : ∀ a b : List (Ent κ), goE f (a ++ b) = (goE f a).bind fun x => (goE f b).map (x ++ ·)
  | [], b => by simp [goE]
  | e :: a, b => by
    rw [List.cons_append, goE, goE, goE_append f a b]
    cases ofE f e with
    | none => rfl
    | some v =>
      cases goE f a with
      | none => rfl
      | some x => cases goE f b <;> simp
theorem goE_len {f : Val → Val → Option Val} : ∀ {a : List (Ent κ)} {x}, goE f a = some x → x.length = a.length
  | [], x, h => by simp [goE] at h; subst h; rfl
  | e :: a, x, h => by
    rw [goE] at h
    cases ho : ofE f e with
    | none => rw [ho] at h; cases h
    | some v =>
      rw [ho] at h
      cases hg : goE f a with
      | none => rw [hg] at h; cases h
      | some y => rw [hg] at h; simp at h; subst h; simp [goE_len hg]
theorem mergeE_mem (cmp : κ → κ → Int) : ∀ (a b : List (REnt κ)) (e : Ent κ), e ∈ mergeE cmp a b → ((e.1, e.2.1) ∈ a ∨ (e.1, e.2.1) ∈ b) ∧ ∀ y, e.2.2 = some y → (e.1, e.2.1) ∈ a ∧ ∃ k, (k, y) ∈ b := by
  intro a b
  induction a, b using mergeE.induct cmp with
  | case1 => intro e h; simp [mergeE] at h
  | case2 x a ih =>
    intro e h
    rw [mergeE, List.mem_cons] at h
    rcases h with rfl | h
    · exact ⟨.inl (.head _), fun y h => by cases h⟩
    · obtain ⟨h1, h2⟩ := ih e h
      refine ⟨h1.imp (.tail _) id, fun y hy => ?_⟩
      obtain ⟨p, k, q⟩ := h2 y hy
      exact ⟨.tail _ p, k, q⟩
  | case3 y b ih =>
    intro e h
    rw [mergeE, List.mem_cons] at h
    rcases h with rfl | h
    · exact ⟨.inr (.head _), fun y h => by cases h⟩
    · obtain ⟨h1, h2⟩ := ih e h
      refine ⟨h1.imp id (.tail _), fun y hy => ?_⟩
      obtain ⟨p, k, q⟩ := h2 y hy
      exact ⟨p, k, .tail _ q⟩
  | case4 x a y b hlt ih =>
    intro e h
    rw [mergeE, if_pos hlt, List.mem_cons] at h
    rcases h with rfl | h
    · exact ⟨.inl (.head _), fun y h => by cases h⟩
    · obtain ⟨h1, h2⟩ := ih e h
      refine ⟨h1.imp (.tail _) id, fun y hy => ?_⟩
      obtain ⟨p, k, q⟩ := h2 y hy
      exact ⟨.tail _ p, k, q⟩
  | case5 x a y b hlt hgt ih =>
    intro e h
    rw [mergeE, if_neg hlt, if_pos hgt, List.mem_cons] at h
    rcases h with rfl | h
    · exact ⟨.inr (.head _), fun y h => by cases h⟩
    · obtain ⟨h1, h2⟩ := ih e h
      refine ⟨h1.imp id (.tail _), fun y hy => ?_⟩
      obtain ⟨p, k, q⟩ := h2 y hy
      exact ⟨p, k, .tail _ q⟩
  | case6 x a y b hlt hgt ih =>
    intro e h
    rw [mergeE, if_neg hlt, if_neg hgt, List.mem_cons] at h
    rcases h with rfl | h
    · exact ⟨.inl (.head _), fun z h => by cases h; exact ⟨.head _, y.1, .head _⟩⟩
    · obtain ⟨h1, h2⟩ := ih e h
      refine ⟨h1.imp (.tail _) (.tail _), fun y hy => ?_⟩
      obtain ⟨p, k, q⟩ := h2 y hy
      exact ⟨.tail _ p, k, .tail _ q⟩
end
def seenE (l : List (Ent (List Tk))) (e : Ent (List Tk)) : Bool := l.any fun o => decide (cmpF e.1 o.1 = -1)
def entC (v : Val) : List (REnt (List Tk)) := v.cv.zip v.vv
def entX (v : Val) : List (REnt Bs) := v.sv.zip v.vv
def mergedC (a b : Val) : List (Ent (List Tk)) := mergeE byTicksF (entC a) (entC b)
def mergedX (a b : Val) : List (Ent Bs) := mergeE cmpX (entX a) (entX b)
def causesF (f : Val → Val → Option Val) (a b : Val) : Option Val := (goE f ((mergedC a b).filter fun e => !seenE (mergedC a b) e)).map fun l => .mk 0 0 [] (l.map (·.1)) (l.map (·.2))
def mapsF (f : Val → Val → Option Val) (a b : Val) : Option Val := (goE f (mergedX a b)).map fun l => .mk 0 0 (l.map (·.1)) [] (l.map (·.2))
def goP : List (Val → Val → Option Val) → List Val → List Val → Option (List Val)
  | f :: fs, x :: a, y :: b => match f x y with | none => none | some v => (goP fs a b).map (v :: ·)
  | _, _, _ => some []
def pairF2 (fs : List (Val → Val → Option Val)) (a b : Val) : Option Val := (goP fs a.vv b.vv).map fun l => .mk 0 0 [] [] l
def laterC (a b : Val) : Int := if cmpI a.nv b.nv ≠ 0 then cmpI a.nv b.nv else if cmpI a.mv b.mv ≠ 0 then cmpI a.mv b.mv else cmpX (a.sv.headD []) (b.sv.headD [])
def laterF (a b : Val) : Val := if a.sv.length = 0 ∨ (0 < b.sv.length ∧ laterC a b < 0) then b else a
def clocksF (a b : Val) : Val := if a.cv.length = 0 then b else if b.cv.length = 0 then a else .mk 0 0 [] [joinF (a.cv.headD []) (b.cv.headD [])] []
def largeF (v : Val) : Bool := decide (40 < max (max v.sv.length v.cv.length) v.vv.length) || (match v.cv with | [c] => decide (40 < c.length) | _ => false)
def bothB (k : Int) (fs : List (Val → Val → Option Val)) (a b : Val) : Option Val :=
  if k = 1 ∨ k = 2 then some (.mk (max a.nv b.nv) 0 [] [] [])
  else if k = 3 then some (.mk 0 0 (bothX a.sv b.sv) [] [])
  else if k = 4 then mapsF (fs.headD fun _ _ => none) a b
  else if k = 5 then pairF2 fs a b
  else if k = 6 then some (laterF a b)
  else if k = 7 then some (clocksF a b)
  else causesF (fs.headD fun _ _ => none) a b
def capF (o : Option Val) : Option Val := o.bind fun v => if largeF v then none else some v
mutual
def bothF : Sch → Val → Val → Option Val
  | .mk k ins, a, b => capF (bothB k (bothL ins) a b)
def bothL : List Sch → List (Val → Val → Option Val)
  | [] => []
  | s :: l => bothF s :: bothL l
end
theorem bothF_mk (k : Int) (ins : List Sch) (a b : Val) : bothF (.mk k ins) a b = capF (bothB k (bothL ins) a b) := by rw [bothF]
theorem bothL_eq : ∀ l : List Sch, bothL l = l.map bothF
  | [] => by simp [bothL]
  | s :: l => by simp [bothL, bothL_eq l]
def encErr (n : Int) : MV := .iface 58 (.int .i64 n)
def errO : Option Val → MV
  | none => encErr 13
  | some _ => .iface0
theorem cl_errO (n : Nat) (o : Option Val) : Cl n (errO o) := by
  cases o
  · exact .iface _ _ (.int _ _)
  · exact .iface0
def encO (o : Option Val) : MV := .tup [encV (o.getD noV), errO o]
theorem encO_of (o : Option Val) : ∃ n m s c w, o.getD noV = .mk n m s c w := by
  cases o.getD noV with
  | mk n m s c w => exact ⟨n, m, s, c, w, rfl⟩
def encJ (o : Except Int Val) : MV := .tup [match o with | .error _ => encV noV | .ok v => encV v, match o with | .error n => encErr n | .ok _ => .iface0]
noncomputable def joinVF (s : Sch) (a b : Val) : Except Int Val :=
  if (isF 16 s && isVF s a) = true ∧ (isF 16 s && isVF s b) = true then (match bothF s a b with | some v => .ok v | none => .error 13) else .error 14
end Go.Proofs.YtnfcnpdpfgcchaaGreat
end
section
set_option linter.unusedVariables false
set_option linter.unusedSimpArgs false
set_option maxRecDepth 20000
set_option maxHeartbeats 400000
namespace Go.Proofs.YtnfcnpdpfgcchaaGreat
open Go Go.MV
theorem large_eq (n m : Int) (s : List Bs) (c : List (List Tk)) (w : List Val) : largeF (.mk n m s c w) = (decide (40 < max (max s.length c.length) w.length) || (decide (c.length = 1) && decide (40 < (c.headD []).length))) := by
 unfold largeF
 congr 1
 rcases c with _ | ⟨x, _ | ⟨y, c⟩⟩ <;> simp [Val.cv]
theorem or_three (a b c : Int) : orF [a, b, c] = if a ≠ 0 then a else if b ≠ 0 then b else c := by
 rw [or_cons, or_cons, or_cons]
 by_cases ha : a = 0 <;> by_cases hb : b = 0 <;> by_cases hc : c = 0 <;> simp [ha, hb, hc, orF]
theorem jTicks1_spec (x y : Tk) (S : MS) : MCalls Tryz.prog 144 [encT x, encT y] S fun v σ' => v = .int .i64 (tickC x y) ∧ σ' = S := by
 refine mcalls_body Tryz.func144 rfl Tryz.ntmps144 (Nat.le_of_ble_eq_true rfl) ?_
 refine mwp_seq <| qR rfl <| qB rfl rfl rfl rfl rfl <| qB rfl rfl rfl rfl rfl <| qA rfl rfl rfl <| qN <| mwp_seq ?_
 refine mwp_draw [] [_] mo (by decide) rfl rfl rfl rfl ?_
 refine dO rfl rfl rfl (op_fieldAddr_ref rfl rfl fo54_0 ⟨rfl, rfl⟩) <| dO rfl rfl rfl (op_load' rfl rfl rfl ta3 rfl ⟨rfl, rfl⟩) <| dO rfl rfl rfl (op_fieldAddr_ref rfl rfl fo54_0 ⟨rfl, rfl⟩) <| dO rfl rfl rfl (op_load' rfl rfl rfl ta3 rfl ⟨rfl, rfl⟩) <| dOps_op rfl rfl (.cons (op_call rfl rfl rfl co118 (compare_spec x.1 y.1 _)) .nil) <| dO rfl rfl rfl (op_fieldAddr_ref rfl rfl fo54_1 ⟨rfl, rfl⟩) <| dO rfl rfl rfl (op_load' rfl rfl rfl ta25 rfl ⟨rfl, rfl⟩) <| dO rfl rfl rfl (op_fieldAddr_ref rfl rfl fo54_1 ⟨rfl, rfl⟩) <| dO rfl rfl rfl (op_load' rfl rfl rfl ta25 rfl ⟨rfl, rfl⟩) <| dOps_op rfl rfl (.cons (op_call rfl rfl rfl co119 (compareu_spec x.2 y.2 _)) .nil) <| dO rfl rfl rfl (op_buildSlice rfl Tryz.underlying158 el3 rfl rfl (by decide) (by decide) rfl rfl ⟨rfl, rfl⟩) ?_
 refine dOps_op rfl rfl (.cons (op_call rfl rfl rfl co117 (cmpOr_spec [cmpI x.1 y.1, cmpI x.2 y.2] _)) .nil) <| dO rfl rfl rfl (op_assign rfl rfl ⟨rfl, rfl⟩) <| dOps_nil <| mwp_ret ?_
 exact ret_tmp (.inr rfl) Tryz.results144 rfl (.of_eq (by rw [or_two]; rfl)) (.int _ _) ⟨rfl, rfl⟩
theorem jCmpFunc_spec (a b : List Tk) (S : MS) : MCalls Tryz.prog 115 [.lst none 2 (a.map encT), .lst none 2 (b.map encT), .fn (.func 144) [] []] S fun v σ' => v = .int .i64 (byTicksF a b) ∧ σ' = S := by
 refine mcalls_body Tryz.func115 rfl Tryz.ntmps115 (Nat.le_of_ble_eq_true rfl) ?_
 refine mwp_len (t := 0) rfl fun hlen => ?_
 rw [List.length_map] at hlen
 refine mwp_seq <| qR rfl <| qA rfl rfl rfl <| qN <| mwp_seq <| mwp_seq <| qR rfl <| qM rfl rfl rfl <| qE rfl rfl Tryz.underlying55 rfl <| qM rfl rfl rfl <| qN <| mwp_block ?_
 refine mwp_loopKJ (α := Nat) [(0, _), (1, _), (2, _), (11, _), (12, _)] (fun i => [(13, .int .i64 (i : Int))]) (fun i => []) (fun i => i ≤ a.length ∧ i ≤ b.length ∧ byTicksF (a.drop i) (b.drop i) = byTicksF a b) (fun i => a.length - i) (0) (Nat.le_refl _) (.keep rfl (.keep rfl (.keep rfl (.keep rfl (.keep rfl (.nil)))))) (.keep rfl (.nil)) (⟨by omega, by omega, rfl⟩) (rfl) ?_
 rintro i ⟨hi, hib, he⟩
 refine mwp_seq <| qR rfl <| qC rfl rfl rfl rfl rfl <| qN <| mwp_seq ?_
 refine mwp_cond_split rfl (fun h14 => ?_) (fun h14 => ?_)
 ·
  have hlt : i < a.length := by simpa using h14
  obtain ⟨x, hs⟩ : ∃ q_, a[i]? = some q_ := ⟨_, List.getElem?_eq_getElem hlt⟩
  refine mwp_skip <| mwp_seq <| mwp_block <| mwp_seq <| qR rfl <| qM rfl rfl rfl <| qO rfl <| op_indexAddr rfl Tryz.underlying55 sz54 (by decide) rfl rfl rfl (get_map hs) ?_
  refine qO rfl <| op_load_sptr rfl rfl ta54 rfl <| qO rfl <| op_alloc' rfl zm54 rfl rfl <| qA rfl rfl rfl <| qO rfl <| op_store' rfl rfl rfl rfl sz54 rfl rfl (Nat.le_of_ble_eq_true rfl) rfl <| qN <| mwp_seq <| mwp_seq <| qR rfl <| qM rfl rfl rfl <| qM rfl rfl rfl <| qE rfl rfl Tryz.underlying55 rfl <| qC rfl rfl rfl rfl rfl <| qN ?_
  refine mwp_cond_split rfl (fun h21 => ?_) (fun h21 => ?_)
  ·
   have hbe : b.drop i = [] := by rw [List.length_map] at h21; simp at h21; exact List.drop_eq_nil_of_le (by omega)
   refine mwp_seq <| qR rfl <| qA rfl rfl rfl <| qN <| mwp_ret ?_
   exact ret_tmp (.inr rfl) Tryz.results115 rfl (.of_eq (by rw [← he, hbe, drop_at hs]; rfl)) (.int _ _) ⟨rfl, rfl⟩
  ·
   have hltb : i < b.length := by rw [List.length_map] at h21; simp at h21; omega
   obtain ⟨y, hs2⟩ : ∃ s, b[i]? = some s := ⟨_, List.getElem?_eq_getElem hltb⟩
   refine mwp_skip <| mwp_seq <| qR rfl <| qM rfl rfl rfl <| qM rfl rfl rfl <| qO rfl <| op_indexAddr rfl Tryz.underlying55 sz54 (by decide) rfl rfl rfl (get_map hs2) ?_
   refine qO rfl <| op_load_sptr rfl rfl ta54 rfl <| qO rfl <| op_alloc' rfl zm54 rfl rfl <| qO rfl <| op_store' rfl rfl rfl rfl sz54 rfl rfl (Nat.le_of_ble_eq_true rfl) rfl <| qN <| mwp_seq <| qR rfl <| qM rfl rfl rfl <| qL rfl rfl rfl rfl ta54 rfl <| qL rfl rfl rfl rfl ta54 rfl ?_
   refine wOps_op rfl (op_call rfl rfl rfl co144 ((jTicks1_spec x y _).mono ?_))
   rintro _ _ ⟨rfl, rfl⟩
   refine qA rfl rfl rfl <| qN <| mwp_seq <| qR rfl <| qM rfl rfl rfl <| qC rfl rfl rfl rfl rfl <| qN ?_
   refine mwp_cond_split rfl (fun h31 => ?_) (fun h31 => ?_)
   ·
    refine mwp_seq <| qR rfl <| qM rfl rfl rfl <| qA rfl rfl rfl <| qN <| mwp_ret ?_
    exact ret_tmp (.inr rfl) Tryz.results115 rfl (.of_eq (by rw [← he, ticks_at hs hs2, if_pos (by simpa using h31)])) (.int _ _) ⟨rfl, rfl⟩
   ·
    refine mwp_skip <| qR rfl <| qO rfl <| op_arith rfl rfl rfl rfl <| qM rfl rfl rfl <| qN ?_
    refine ⟨i + 1, _, by omega, ⟨by omega, by omega, by rw [← he, ticks_at hs hs2, if_neg (by simpa using h31)]⟩, rfl, .nil, (.old rfl rfl (.old rfl rfl (.old rfl rfl (.old rfl rfl (.old rfl rfl (.nil)))))), (.new' rfl (int_succ hlt hlen) (.int _ _) (.nil))⟩
 ·
  have hge : i = a.length := by simp at h14; omega
  refine mwp_exit <| mwp_seq <| mwp_seq <| qR rfl <| qM rfl rfl rfl <| qE rfl rfl Tryz.underlying55 rfl <| qM rfl rfl rfl <| qE rfl rfl Tryz.underlying55 rfl <| qC rfl rfl rfl rfl rfl <| qN ?_
  refine mwp_cond_split rfl (fun h38 => ?_) (fun h38 => ?_)
  ·
   refine mwp_seq <| qR rfl <| qA rfl rfl rfl <| qN <| mwp_ret ?_
   exact ret_tmp (.inr rfl) Tryz.results115 rfl (.of_eq (by simp at h38; rw [← he, hge, List.drop_length, drop_at (List.getElem?_eq_getElem (by omega : a.length < b.length))]; rfl)) (.int _ _) ⟨rfl, rfl⟩
  ·
   refine mwp_skip <| mwp_seq <| qR rfl <| qA rfl rfl rfl <| qN <| mwp_ret ?_
   exact ret_tmp (.inr rfl) Tryz.results115 rfl (.of_eq (by simp at h38; rw [← he, hge, List.drop_length, List.drop_eq_nil_of_le (by omega : b.length ≤ a.length)]; rfl)) (.int _ _) ⟨rfl, rfl⟩
theorem jTicks_spec (a b : List Tk) (S : MS) : MCalls Tryz.prog 129 [.lst none 2 (a.map encT), .lst none 2 (b.map encT)] S fun v σ' => v = .int .i64 (byTicksF a b) ∧ σ' = S := by
 refine mcalls_body Tryz.func129 rfl Tryz.ntmps129 (Nat.le_of_ble_eq_true rfl) ?_
 refine mwp_seq <| qR rfl <| qA rfl rfl rfl <| qN <| mwp_seq <| qR rfl <| qM rfl rfl rfl <| qM rfl rfl rfl ?_
 refine wOps_op rfl (op_call rfl rfl rfl co115 ((jCmpFunc_spec a b _).mono ?_))
 rintro _ _ ⟨rfl, rfl⟩
 refine qA rfl rfl rfl <| qN <| mwp_ret ?_
 exact ret_tmp (.inr rfl) Tryz.results129 rfl (.of_eq (rfl)) (.int _ _) ⟨rfl, rfl⟩
theorem cmpString_spec (a b : Bs) (S : MS) : MCalls Tryz.prog 141 [encX a, encX b] S fun v σ' => v = .int .i64 (cmpX a b) ∧ σ' = S := by
 refine mcalls_body Tryz.func141 rfl Tryz.ntmps141 (Nat.le_of_ble_eq_true rfl) ?_
 refine mwp_seq <| qR rfl <| qA rfl rfl rfl <| qN <| mwp_seq <| qR rfl <| qM rfl rfl rfl <| qM rfl rfl rfl <| qO rfl <| op_ext rfl rfl rfl (fun g w vs h => run_cmpstr Tryz.func146 (by kernel_rfl) (by kernel_rfl) (by kernel_rfl) (by kernel_rfl) a b g w vs h) rfl ?_
 refine qA rfl rfl rfl <| qN <| mwp_ret ?_
 exact ret_tmp (.inr rfl) Tryz.results141 rfl (.of_eq (rfl)) (.int _ _) ⟨rfl, rfl⟩
theorem strCmp_spec (a b : Bs) (S : MS) : MCalls Tryz.prog 124 [encX a, encX b] S fun v σ' => v = .int .i64 (cmpX a b) ∧ σ' = S := by
 refine mcalls_body Tryz.func124 rfl Tryz.ntmps124 (Nat.le_of_ble_eq_true rfl) ?_
 refine mwp_seq <| qR rfl <| qA rfl rfl rfl <| qN <| mwp_seq <| qR rfl <| qM rfl rfl rfl <| qM rfl rfl rfl ?_
 refine wOps_op rfl (op_call rfl rfl rfl ⟨_, _, Tryz.func141, by kernel_rfl, rfl⟩ ((cmpString_spec a b _).mono ?_))
 rintro _ _ ⟨rfl, rfl⟩
 refine qA rfl rfl rfl <| qN <| mwp_ret ?_
 exact ret_tmp (.inr rfl) Tryz.results124 rfl (.of_eq (rfl)) (.int _ _) ⟨rfl, rfl⟩
theorem cof_none (k : List Tk) (k1 : Int) (i1 : List Sch) (n m : Int) (s : List Bs) (c : List (List Tk)) (w : List Val) (S : MS) : MCalls Tryz.prog 132 [encS (.mk k1 i1), encE encC (k, .mk n m s c w, none)] S fun v σ' => v = encO (some (.mk n m s c w)) ∧ σ' = S := by
 refine mcalls_body Tryz.func132 rfl Tryz.ntmps132 (Nat.le_of_ble_eq_true rfl) ?_
 refine mwp_seq <| qR rfl <| qB rfl rfl rfl rfl rfl <| qB rfl rfl rfl rfl rfl <| qO rfl <| op_alloc' rfl zm30 rfl rfl <| qA rfl rfl rfl <| qN <| mwp_seq <| mwp_seq <| qR rfl <| qF rfl rfl rfl fo149_2 <| qL rfl rfl rfl rfl ta142 rfl <| qO rfl <| op_ptr0 rfl Tryz.underlying142 rfl rfl (.inl ⟨rfl, rfl⟩) <| qN <| mwp_cond_t rfl (rfl) <| mwp_seq <| qR rfl <| qF rfl rfl rfl fo149_1 <| qL rfl rfl rfl rfl ta142 rfl <| qO rfl <| op_nilCheck rfl rfl rfl ?_
 refine qO rfl <| op_load_sptr rfl rfl ta30 rfl <| qO rfl <| op_store' rfl rfl rfl rfl sz30 rfl rfl (Nat.le_of_ble_eq_true rfl) rfl <| qA rfl rfl rfl <| qN <| mwp_ret ?_
 exact ret_cell_tmp (.inr rfl) Tryz.results132 rfl rfl ta30 rfl (.refl _) (cl_encV _ (.mk n m s c w)) rfl (.refl _) .iface0 ⟨rfl, rfl⟩
theorem cof_some (k : List Tk) (k1 : Int) (i1 : List Sch) (n m : Int) (s : List Bs) (c : List (List Tk)) (w : List Val) (n2 m2 : Int) (s2 : List Bs) (c2 : List (List Tk)) (w2 : List Val) (o : Option Val) (hb : ∀ S : MS, MCalls Tryz.prog 83 [encS (.mk k1 i1), encV (.mk n m s c w), encV (.mk n2 m2 s2 c2 w2)] S fun v σ' => v = encO o ∧ σ' = S) (S : MS) : MCalls Tryz.prog 132 [encS (.mk k1 i1), encE encC (k, .mk n m s c w, some (.mk n2 m2 s2 c2 w2))] S fun v σ' => v = encO o ∧ σ' = S := by
 obtain ⟨n3, m3, s3, c3, w3, h3⟩ := encO_of o
 have hO : encO o = .tup [encV (.mk n3 m3 s3 c3 w3), errO o] := by rw [encO, h3]
 rw [hO] at hb
 refine mcalls_body Tryz.func132 rfl Tryz.ntmps132 (Nat.le_of_ble_eq_true rfl) ?_
 refine mwp_seq <| qR rfl <| qB rfl rfl rfl rfl rfl <| qB rfl rfl rfl rfl rfl <| qO rfl <| op_alloc' rfl zm30 rfl rfl <| qA rfl rfl rfl <| qN <| mwp_seq <| mwp_seq <| qR rfl <| qF rfl rfl rfl fo149_2 <| qL rfl rfl rfl rfl ta142 rfl <| qO rfl <| op_ptrnil rfl Tryz.underlying142 rfl rfl rfl (.inl ⟨rfl, rfl⟩) <| qN <| mwp_cond_f rfl (rfl) <| mwp_skip <| mwp_seq ?_
 refine mwp_draw [12] [_, S ++ [.cells (encS (.mk k1 i1)).cells, .cells (encE encC (k, .mk n m s c w, some (.mk n2 m2 s2 c2 w2))).cells, .cells (encV (.mk n3 m3 s3 c3 w3)).cells]] mo (by decide) rfl rfl rfl rfl ?_
 refine dO rfl rfl rfl (op_load' rfl rfl rfl ta24 rfl ⟨rfl, rfl⟩) <| dO rfl rfl rfl (op_fieldAddr_ref rfl rfl fo149_1 ⟨rfl, rfl⟩) <| dO rfl rfl rfl (op_load' rfl rfl rfl ta142 rfl ⟨rfl, rfl⟩) <| dO rfl rfl rfl (op_nilCheck rfl rfl rfl ⟨rfl, rfl⟩) <| dO rfl rfl rfl (op_load_sptr rfl rfl ta30 rfl ⟨rfl, rfl⟩) <| dO rfl rfl rfl (op_fieldAddr_ref rfl rfl fo149_2 ⟨rfl, rfl⟩) <| dO rfl rfl rfl (op_load' rfl rfl rfl ta142 rfl ⟨rfl, rfl⟩) <| dO rfl rfl rfl (op_nilCheck rfl rfl rfl ⟨rfl, rfl⟩) <| dO rfl rfl rfl (op_load_sptr rfl rfl ta30 rfl ⟨rfl, rfl⟩) <| dOps_op rfl rfl (.cons (op_call rfl rfl rfl co83 (hb _)) .nil) <| dO rfl rfl rfl (op_extract rfl rfl rfl ⟨rfl, rfl⟩) <| dO rfl rfl rfl (op_extract rfl rfl rfl ⟨rfl, rfl⟩) <| dOps_eff rfl rfl rfl rfl (op_store' rfl rfl rfl rfl sz30 rfl rfl (Nat.le_of_ble_eq_true rfl) rfl ⟨rfl, rfl⟩) <| dO rfl rfl rfl (op_assign rfl rfl ⟨rfl, rfl⟩) <| dOps_nil <| mwp_ret ?_
 exact ret_cell_tmp (.inr rfl) Tryz.results132 rfl rfl ta30 rfl (.refl _) (cl_encV _ (.mk n3 m3 s3 c3 w3)) rfl (.refl _) (cl_errO _ _) ⟨hO.symm, rfl⟩
theorem cof_spec (k1 : Int) (i1 : List Sch) (f : Val → Val → Option Val) (e : Ent (List Tk)) (hb : ∀ y, e.2.2 = some y → ∀ S : MS, MCalls Tryz.prog 83 [encS (.mk k1 i1), encV e.2.1, encV y] S fun v σ' => v = encO (f e.2.1 y) ∧ σ' = S) (S : MS) : MCalls Tryz.prog 132 [encS (.mk k1 i1), encE encC e] S fun v σ' => v = encO (ofE f e) ∧ σ' = S := by
 obtain ⟨k, ⟨n, m, s, c, w⟩, o⟩ := e
 cases o with
 | none => exact cof_none k k1 i1 n m s c w S
 | some y =>
  obtain ⟨n2, m2, s2, c2, w2⟩ := y
  exact cof_some k k1 i1 n m s c w n2 m2 s2 c2 w2 _ (hb _ rfl) S
theorem xof_none (k : Bs) (k1 : Int) (i1 : List Sch) (n m : Int) (s : List Bs) (c : List (List Tk)) (w : List Val) (S : MS) : MCalls Tryz.prog 125 [encS (.mk k1 i1), encE encX (k, .mk n m s c w, none)] S fun v σ' => v = encO (some (.mk n m s c w)) ∧ σ' = S := by
 refine mcalls_body Tryz.func125 rfl Tryz.ntmps125 (Nat.le_of_ble_eq_true rfl) ?_
 refine mwp_seq <| qR rfl <| qB rfl rfl rfl rfl rfl <| qB rfl rfl rfl rfl rfl <| qO rfl <| op_alloc' rfl zm30 rfl rfl <| qA rfl rfl rfl <| qN <| mwp_seq <| mwp_seq <| qR rfl <| qF rfl rfl rfl fo144_2 <| qL rfl rfl rfl rfl ta142 rfl <| qO rfl <| op_ptr0 rfl Tryz.underlying142 rfl rfl (.inl ⟨rfl, rfl⟩) <| qN <| mwp_cond_t rfl (rfl) <| mwp_seq <| qR rfl <| qF rfl rfl rfl fo144_1 <| qL rfl rfl rfl rfl ta142 rfl <| qO rfl <| op_nilCheck rfl rfl rfl ?_
 refine qO rfl <| op_load_sptr rfl rfl ta30 rfl <| qO rfl <| op_store' rfl rfl rfl rfl sz30 rfl rfl (Nat.le_of_ble_eq_true rfl) rfl <| qA rfl rfl rfl <| qN <| mwp_ret ?_
 exact ret_cell_tmp (.inr rfl) Tryz.results125 rfl rfl ta30 rfl (.refl _) (cl_encV _ (.mk n m s c w)) rfl (.refl _) .iface0 ⟨rfl, rfl⟩
theorem xof_some (k : Bs) (k1 : Int) (i1 : List Sch) (n m : Int) (s : List Bs) (c : List (List Tk)) (w : List Val) (n2 m2 : Int) (s2 : List Bs) (c2 : List (List Tk)) (w2 : List Val) (o : Option Val) (hb : ∀ S : MS, MCalls Tryz.prog 83 [encS (.mk k1 i1), encV (.mk n m s c w), encV (.mk n2 m2 s2 c2 w2)] S fun v σ' => v = encO o ∧ σ' = S) (S : MS) : MCalls Tryz.prog 125 [encS (.mk k1 i1), encE encX (k, .mk n m s c w, some (.mk n2 m2 s2 c2 w2))] S fun v σ' => v = encO o ∧ σ' = S := by
 obtain ⟨n3, m3, s3, c3, w3, h3⟩ := encO_of o
 have hO : encO o = .tup [encV (.mk n3 m3 s3 c3 w3), errO o] := by rw [encO, h3]
 rw [hO] at hb
 refine mcalls_body Tryz.func125 rfl Tryz.ntmps125 (Nat.le_of_ble_eq_true rfl) ?_
 refine mwp_seq <| qR rfl <| qB rfl rfl rfl rfl rfl <| qB rfl rfl rfl rfl rfl <| qO rfl <| op_alloc' rfl zm30 rfl rfl <| qA rfl rfl rfl <| qN <| mwp_seq <| mwp_seq <| qR rfl <| qF rfl rfl rfl fo144_2 <| qL rfl rfl rfl rfl ta142 rfl <| qO rfl <| op_ptrnil rfl Tryz.underlying142 rfl rfl rfl (.inl ⟨rfl, rfl⟩) <| qN <| mwp_cond_f rfl (rfl) <| mwp_skip <| mwp_seq ?_
 refine mwp_draw [12] [_, S ++ [.cells (encS (.mk k1 i1)).cells, .cells (encE encX (k, .mk n m s c w, some (.mk n2 m2 s2 c2 w2))).cells, .cells (encV (.mk n3 m3 s3 c3 w3)).cells]] mo (by decide) rfl rfl rfl rfl ?_
 refine dO rfl rfl rfl (op_load' rfl rfl rfl ta24 rfl ⟨rfl, rfl⟩) <| dO rfl rfl rfl (op_fieldAddr_ref rfl rfl fo144_1 ⟨rfl, rfl⟩) <| dO rfl rfl rfl (op_load' rfl rfl rfl ta142 rfl ⟨rfl, rfl⟩) <| dO rfl rfl rfl (op_nilCheck rfl rfl rfl ⟨rfl, rfl⟩) <| dO rfl rfl rfl (op_load_sptr rfl rfl ta30 rfl ⟨rfl, rfl⟩) <| dO rfl rfl rfl (op_fieldAddr_ref rfl rfl fo144_2 ⟨rfl, rfl⟩) <| dO rfl rfl rfl (op_load' rfl rfl rfl ta142 rfl ⟨rfl, rfl⟩) <| dO rfl rfl rfl (op_nilCheck rfl rfl rfl ⟨rfl, rfl⟩) <| dO rfl rfl rfl (op_load_sptr rfl rfl ta30 rfl ⟨rfl, rfl⟩) <| dOps_op rfl rfl (.cons (op_call rfl rfl rfl co83 (hb _)) .nil) <| dO rfl rfl rfl (op_extract rfl rfl rfl ⟨rfl, rfl⟩) <| dO rfl rfl rfl (op_extract rfl rfl rfl ⟨rfl, rfl⟩) <| dOps_eff rfl rfl rfl rfl (op_store' rfl rfl rfl rfl sz30 rfl rfl (Nat.le_of_ble_eq_true rfl) rfl ⟨rfl, rfl⟩) <| dO rfl rfl rfl (op_assign rfl rfl ⟨rfl, rfl⟩) <| dOps_nil <| mwp_ret ?_
 exact ret_cell_tmp (.inr rfl) Tryz.results125 rfl rfl ta30 rfl (.refl _) (cl_encV _ (.mk n3 m3 s3 c3 w3)) rfl (.refl _) (cl_errO _ _) ⟨hO.symm, rfl⟩
theorem xof_spec (k1 : Int) (i1 : List Sch) (f : Val → Val → Option Val) (e : Ent (Bs)) (hb : ∀ y, e.2.2 = some y → ∀ S : MS, MCalls Tryz.prog 83 [encS (.mk k1 i1), encV e.2.1, encV y] S fun v σ' => v = encO (f e.2.1 y) ∧ σ' = S) (S : MS) : MCalls Tryz.prog 125 [encS (.mk k1 i1), encE encX e] S fun v σ' => v = encO (ofE f e) ∧ σ' = S := by
 obtain ⟨k, ⟨n, m, s, c, w⟩, o⟩ := e
 cases o with
 | none => exact xof_none k k1 i1 n m s c w S
 | some y =>
  obtain ⟨n2, m2, s2, c2, w2⟩ := y
  exact xof_some k k1 i1 n m s c w n2 m2 s2 c2 w2 _ (hb _ rfl) S
theorem eIndex_spec (S : MS) (l : List (Ent (List Tk))) (p : Ent (List Tk) → Bool) (kf : FuncId) (first caps : List MV) (hco : CallOk Tryz.prog kf) (hp : ∀ x ∈ l, ∀ X : MS, MCalls Tryz.prog kf (first ++ [encE encC x] ++ caps) (S ++ X) fun v σ' => v = .bool (p x) ∧ σ' = S ++ X) : MCalls Tryz.prog 145 [.lst none 3 (l.map (encE encC)), .fn (.func kf) first caps] S fun v σ' => v = .int .i64 (findGo p 0 l) ∧ σ' = S := by
 refine mcalls_body Tryz.func145 rfl Tryz.ntmps145 (Nat.le_of_ble_eq_true rfl) ?_
 refine mwp_len (t := 0) rfl fun hlen => ?_
 rw [List.length_map] at hlen
 refine mwp_seq <| qR rfl <| qA rfl rfl rfl <| qN <| mwp_seq <| mwp_seq <| qR rfl <| qM rfl rfl rfl <| qE rfl rfl Tryz.underlying146 rfl <| qM rfl rfl rfl <| qN <| mwp_block ?_
 refine mwp_loopK (α := Nat) [(0, _), (1, _), (7, _)] (fun i => [(8, .int .i64 (i : Int))]) (fun i => []) (fun i => i ≤ l.length ∧ findGo p i (l.drop i) = findGo p 0 l) (fun i => l.length - i) (0) (.keep rfl (.keep rfl (.keep rfl (.nil)))) (.keep rfl (.nil)) (⟨by omega, rfl⟩) (rfl) ?_
 rintro i ⟨hi, he⟩
 refine mwp_seq <| qR rfl <| qC rfl rfl rfl rfl rfl <| qN <| mwp_seq ?_
 refine mwp_cond_split rfl (fun h9 => ?_) (fun h9 => ?_)
 ·
  have hlt : i < l.length := by simpa using h9
  obtain ⟨x, hs⟩ : ∃ q_, l[i]? = some q_ := ⟨_, List.getElem?_eq_getElem hlt⟩
  refine mwp_skip <| mwp_seq <| mwp_block <| mwp_seq <| qR rfl <| qM rfl rfl rfl <| qA rfl rfl rfl <| qN <| mwp_seq <| qR rfl <| qM rfl rfl rfl <| qM rfl rfl rfl <| qM rfl rfl rfl <| qO rfl <| op_indexAddr rfl Tryz.underlying146 sz149 (by decide) rfl rfl rfl (get_map hs) ?_
  refine qO rfl <| op_load_sptr rfl rfl ta149 rfl ?_
  refine wOps_op rfl (op_call rfl rfl rfl hco ((hp _ (List.mem_of_getElem? hs) _).mono ?_))
  rintro _ _ ⟨rfl, rfl⟩
  refine qN ?_
  refine mwp_cond_split rfl (fun h16 => ?_) (fun h16 => ?_)
  ·
   refine mwp_seq <| qR rfl <| qM rfl rfl rfl <| qA rfl rfl rfl <| qN <| mwp_ret ?_
   exact ret_tmp (.inr rfl) Tryz.results145 rfl (.of_eq (by rw [← he, find_at hs, h16]; rfl)) (.int _ _) ⟨rfl, rfl⟩
  ·
   refine mwp_skip <| qR rfl <| qO rfl <| op_arith rfl rfl rfl rfl <| qM rfl rfl rfl <| qN ?_
   refine ⟨i + 1, by omega, ⟨by omega, by rw [← he, find_at hs, h16]; rfl⟩, rfl, (.keep rfl (.keep rfl (.keep rfl (.nil)))), (.eq rfl (int_succ hlt hlen) (.nil))⟩
 ·
  have hge : i = l.length := by simp at h9; omega
  refine mwp_exit <| mwp_seq <| qR rfl <| qA rfl rfl rfl <| qN <| mwp_ret ?_
  exact ret_tmp (.inr rfl) Tryz.results145 rfl (.of_eq (by rw [← he, hge, List.drop_length]; rfl)) (.int _ _) ⟨rfl, rfl⟩
theorem eContains_spec (S : MS) (l : List (Ent (List Tk))) (p : Ent (List Tk) → Bool) (kf : FuncId) (first caps : List MV) (hco : CallOk Tryz.prog kf) (hp : ∀ x ∈ l, ∀ X : MS, MCalls Tryz.prog kf (first ++ [encE encC x] ++ caps) (S ++ X) fun v σ' => v = .bool (p x) ∧ σ' = S ++ X) : MCalls Tryz.prog 130 [.lst none 3 (l.map (encE encC)), .fn (.func kf) first caps] S fun v σ' => v = .bool (l.any p) ∧ σ' = S := by
 refine mcalls_body Tryz.func130 rfl Tryz.ntmps130 (Nat.le_of_ble_eq_true rfl) ?_
 refine mwp_seq <| qR rfl <| qA rfl rfl rfl <| qN <| mwp_seq <| qR rfl <| qM rfl rfl rfl <| qM rfl rfl rfl ?_
 refine wOps_op rfl (op_call rfl rfl rfl co145 ((eIndex_spec (S ++ []) l p kf first caps hco (by rw [List.append_nil]; exact hp)).mono ?_))
 rintro _ _ ⟨rfl, rfl⟩
 refine qC rfl rfl rfl rfl rfl <| qA rfl rfl rfl <| qN <| mwp_ret ?_
 exact ret_tmp (.inr rfl) Tryz.results130 rfl (.of_eq (by rw [find_any p 0 l])) (.bool _) ⟨rfl, rfl⟩
theorem causes1_spec (e o : Ent (List Tk)) (h : e.1.length + o.1.length ≤ 1000000) (id : Nat) (S : MS) (hS : S[id]? = some (.cells (encE encC e).cells)) : MCalls Tryz.prog 131 [encE encC o, .ref id 0] S fun v σ' => v = .bool (decide (cmpF e.1 o.1 = -1)) ∧ σ' = S := by
 refine mcalls_body Tryz.func131 rfl Tryz.ntmps131 (Nat.le_of_ble_eq_true rfl) ?_
 refine mwp_seq <| qR rfl <| qB rfl rfl rfl rfl rfl <| qA rfl rfl rfl <| qN <| mwp_seq <| qR rfl <| qF rfl rfl rfl fo149_0 <| qO rfl <| op_load_far rfl rfl hS ta55 rfl <| qF rfl rfl rfl fo149_0 <| qL rfl rfl rfl rfl ta55 rfl ?_
 refine wOps_op rfl (op_call rfl rfl rfl co100 ((clkCmp_spec e.1 o.1 h _).mono ?_))
 rintro _ _ ⟨rfl, rfl⟩
 refine qC rfl rfl rfl rfl rfl <| qA rfl rfl rfl <| qN <| mwp_ret ?_
 exact ret_tmp (.inr rfl) Tryz.results131 rfl (.of_eq (rfl)) (.bool _) ⟨rfl, rfl⟩
theorem isLarge_spec (n m : Int) (s : List Bs) (c : List (List Tk)) (w : List Val) (S : MS) : MCalls Tryz.prog 107 [encV (.mk n m s c w)] S fun v σ' => v = .bool (largeF (.mk n m s c w)) ∧ σ' = S := by
 refine mcalls_body Tryz.func107 rfl Tryz.ntmps107 (Nat.le_of_ble_eq_true rfl) ?_
 refine mwp_seq <| qR rfl <| qB rfl rfl rfl rfl rfl <| qA rfl rfl rfl <| qN <| mwp_seq <| qR rfl <| qF rfl rfl rfl fo30_2 <| qL rfl rfl rfl rfl ta26 rfl <| qE rfl rfl Tryz.underlying26 rfl <| qF rfl rfl rfl fo30_3 <| qL rfl rfl rfl rfl ta27 rfl <| qE rfl rfl Tryz.underlying27 rfl <| qF rfl rfl rfl fo30_4 <| qL rfl rfl rfl rfl ta28 rfl <| qE rfl rfl Tryz.underlying28 rfl ?_
 rw [encVs_length, List.length_map, List.length_map]
 refine qO rfl <| op_max3 rfl rfl rfl rfl rfl <| qC rfl rfl rfl rfl rfl <| qM rfl rfl rfl ?_
 refine wOps_case (fun h14 => ?_) (fun h14 => ?_)
 ·
  refine qS rfl <| qS rfl <| qS rfl <| qS rfl <| qS rfl <| qS rfl <| qS rfl <| qS rfl <| qS rfl <| qS rfl <| qS rfl <| qS rfl <| qP rfl rfl rfl rfl <| qA rfl rfl rfl <| qN <| mwp_ret ?_
  exact ret_tmp (.inr rfl) Tryz.results107 rfl (.of_eq (by rw [large_eq]; congr 1; rw [Bool.eq_iff_iff]; first | (simp_all; done) | (simp_all; omega))) (.bool _) ⟨rfl, rfl⟩
 ·
  refine qF rfl rfl rfl fo30_3 <| qL rfl rfl rfl rfl ta27 rfl <| qE rfl rfl Tryz.underlying27 rfl <| qC rfl rfl rfl rfl rfl <| qM rfl rfl rfl ?_
  refine wOps_case (fun h19 => ?_) (fun h19 => ?_)
  ·
   obtain ⟨c0, rfl⟩ := one_of (by rw [List.length_map] at h19; simp at h19; omega : c.length = 1)
   refine qF rfl rfl rfl fo30_3 <| qL rfl rfl rfl rfl ta27 rfl <| qO rfl <| op_indexAddr rfl Tryz.underlying27 sz55 (by decide) rfl rfl rfl (show _ = some (encC c0) from rfl) ?_
   refine qO rfl <| op_load_sptr rfl rfl ta55 rfl <| qE rfl rfl Tryz.underlying55 rfl <| qC rfl rfl rfl rfl rfl <| qP rfl rfl rfl rfl <| qP rfl rfl rfl rfl <| qA rfl rfl rfl <| qN <| mwp_ret ?_
   exact ret_tmp (.inr rfl) Tryz.results107 rfl (.of_eq (by rw [large_eq]; congr 1; rw [Bool.eq_iff_iff]; first | (simp_all; done) | (simp_all; omega))) (.bool _) ⟨rfl, rfl⟩
  ·
   refine qS rfl <| qS rfl <| qS rfl <| qS rfl <| qS rfl <| qS rfl <| qP rfl rfl rfl rfl <| qP rfl rfl rfl rfl <| qA rfl rfl rfl <| qN <| mwp_ret ?_
   exact ret_tmp (.inr rfl) Tryz.results107 rfl (.of_eq (by rw [large_eq]; congr 1; rw [Bool.eq_iff_iff]; first | (simp_all; done) | (simp_all; omega))) (.bool _) ⟨rfl, rfl⟩
theorem later_spec (n1 m1 : Int) (s1 : List Bs) (c1 : List (List Tk)) (w1 : List Val) (n2 m2 : Int) (s2 : List Bs) (c2 : List (List Tk)) (w2 : List Val) (S : MS) : MCalls Tryz.prog 104 [encV (.mk n1 m1 s1 c1 w1), encV (.mk n2 m2 s2 c2 w2)] S fun v σ' => v = encV (laterF (.mk n1 m1 s1 c1 w1) (.mk n2 m2 s2 c2 w2)) ∧ σ' = S := by
 refine mcalls_body Tryz.func104 rfl Tryz.ntmps104 (Nat.le_of_ble_eq_true rfl) ?_
 refine mwp_seq <| qR rfl <| qB rfl rfl rfl rfl rfl <| qB rfl rfl rfl rfl rfl <| qO rfl <| op_alloc' rfl zm30 rfl rfl <| qN <| mwp_seq <| mwp_seq ?_
 rcases s1 with _ | ⟨x, s1⟩ <;> rcases s2 with _ | ⟨y, s2⟩
 ·
  refine mwp_draw [] [_] mo (by decide) rfl rfl rfl rfl ?_
  refine dO rfl rfl rfl (op_fieldAddr_ref rfl rfl fo30_2 ⟨rfl, rfl⟩) <| dO rfl rfl rfl (op_load' rfl rfl rfl ta26 rfl ⟨rfl, rfl⟩) <| dO rfl rfl rfl (op_len_lst rfl Tryz.underlying26 rfl ⟨rfl, rfl⟩) <| dO rfl rfl rfl (op_cmp rfl rfl rfl (eq_nil) ⟨rfl, rfl⟩) <| dO rfl rfl rfl (op_move rfl rfl ⟨rfl, rfl⟩) <| dS rfl rfl <| dS rfl rfl <| dS rfl rfl <| dS rfl rfl <| dS rfl rfl <| dS rfl rfl <| dS rfl rfl <| dS rfl rfl <| dS rfl rfl <| dS rfl rfl <| dS rfl rfl <| dS rfl rfl <| dS rfl rfl <| dS rfl rfl <| dS rfl rfl <| dS rfl rfl <| dS rfl rfl <| dS rfl rfl <| dS rfl rfl <| dS rfl rfl <| dS rfl rfl <| dS rfl rfl <| dS rfl rfl <| dS rfl rfl <| dS rfl rfl ?_
  refine dS rfl rfl <| dS rfl rfl <| dS rfl rfl <| dO rfl rfl rfl (op_pick rfl rfl rfl ⟨rfl, rfl⟩) <| dOps_nil <| mwp_cond_t rfl (rfl) <| mwp_seq <| qR rfl <| qL rfl rfl rfl rfl ta30 rfl <| qO rfl <| op_store' rfl rfl rfl rfl sz30 rfl rfl (Nat.le_of_ble_eq_true rfl) rfl <| qN <| mwp_ret ?_
  exact ret_cell (.inr rfl) Tryz.results104 rfl rfl ta30 rfl (.refl _) (cl_encV _ (.mk n2 m2 [] c2 w2)) ⟨by rw [show laterF (.mk n1 m1 [] c1 w1) (.mk n2 m2 [] c2 w2) = .mk n2 m2 [] c2 w2 from if_pos (.inl rfl)]; rfl, rfl⟩
 ·
  refine mwp_draw [] [_] mo (by decide) rfl rfl rfl rfl ?_
  refine dO rfl rfl rfl (op_fieldAddr_ref rfl rfl fo30_2 ⟨rfl, rfl⟩) <| dO rfl rfl rfl (op_load' rfl rfl rfl ta26 rfl ⟨rfl, rfl⟩) <| dO rfl rfl rfl (op_len_lst rfl Tryz.underlying26 rfl ⟨rfl, rfl⟩) <| dO rfl rfl rfl (op_cmp rfl rfl rfl (eq_nil) ⟨rfl, rfl⟩) <| dO rfl rfl rfl (op_move rfl rfl ⟨rfl, rfl⟩) <| dS rfl rfl <| dS rfl rfl <| dS rfl rfl <| dS rfl rfl <| dS rfl rfl <| dS rfl rfl <| dS rfl rfl <| dS rfl rfl <| dS rfl rfl <| dS rfl rfl <| dS rfl rfl <| dS rfl rfl <| dS rfl rfl <| dS rfl rfl <| dS rfl rfl <| dS rfl rfl <| dS rfl rfl <| dS rfl rfl <| dS rfl rfl <| dS rfl rfl <| dS rfl rfl <| dS rfl rfl <| dS rfl rfl <| dS rfl rfl <| dS rfl rfl ?_
  refine dS rfl rfl <| dS rfl rfl <| dS rfl rfl <| dO rfl rfl rfl (op_pick rfl rfl rfl ⟨rfl, rfl⟩) <| dOps_nil <| mwp_cond_t rfl (rfl) <| mwp_seq <| qR rfl <| qL rfl rfl rfl rfl ta30 rfl <| qO rfl <| op_store' rfl rfl rfl rfl sz30 rfl rfl (Nat.le_of_ble_eq_true rfl) rfl <| qN <| mwp_ret ?_
  exact ret_cell (.inr rfl) Tryz.results104 rfl rfl ta30 rfl (.refl _) (cl_encV _ (.mk n2 m2 (y :: s2) c2 w2)) ⟨by rw [show laterF (.mk n1 m1 [] c1 w1) (.mk n2 m2 (y :: s2) c2 w2) = .mk n2 m2 (y :: s2) c2 w2 from if_pos (.inl rfl)]; rfl, rfl⟩
 ·
  refine mwp_draw [] [_] mo (by decide) rfl rfl rfl rfl ?_
  refine dO rfl rfl rfl (op_fieldAddr_ref rfl rfl fo30_2 ⟨rfl, rfl⟩) <| dO rfl rfl rfl (op_load' rfl rfl rfl ta26 rfl ⟨rfl, rfl⟩) <| dO rfl rfl rfl (op_len_lst rfl Tryz.underlying26 rfl ⟨rfl, rfl⟩) <| dO rfl rfl rfl (op_cmp rfl rfl rfl (eq_cons) ⟨rfl, rfl⟩) <| dO rfl rfl rfl (op_move rfl rfl ⟨rfl, rfl⟩) <| dO rfl rfl rfl (op_fieldAddr_ref rfl rfl fo30_2 ⟨rfl, rfl⟩) <| dO rfl rfl rfl (op_load' rfl rfl rfl ta26 rfl ⟨rfl, rfl⟩) <| dO rfl rfl rfl (op_len_lst rfl Tryz.underlying26 rfl ⟨rfl, rfl⟩) <| dO rfl rfl rfl (op_cmp rfl rfl rfl (gt_nil) ⟨rfl, rfl⟩) <| dO rfl rfl rfl (op_move rfl rfl ⟨rfl, rfl⟩) <| dS rfl rfl <| dS rfl rfl <| dS rfl rfl <| dS rfl rfl <| dS rfl rfl <| dS rfl rfl <| dS rfl rfl <| dS rfl rfl <| dS rfl rfl <| dS rfl rfl <| dS rfl rfl <| dS rfl rfl <| dS rfl rfl <| dS rfl rfl <| dS rfl rfl <| dS rfl rfl <| dS rfl rfl <| dS rfl rfl <| dS rfl rfl <| dS rfl rfl ?_
  refine dS rfl rfl <| dS rfl rfl <| dO rfl rfl rfl (op_pick rfl rfl rfl ⟨rfl, rfl⟩) <| dO rfl rfl rfl (op_pick rfl rfl rfl ⟨rfl, rfl⟩) <| dOps_nil <| mwp_cond_f rfl (rfl) <| mwp_skip <| mwp_seq <| qR rfl <| qL rfl rfl rfl rfl ta30 rfl <| qO rfl <| op_store' rfl rfl rfl rfl sz30 rfl rfl (Nat.le_of_ble_eq_true rfl) rfl <| qN <| mwp_ret ?_
  exact ret_cell (.inr rfl) Tryz.results104 rfl rfl ta30 rfl (.refl _) (cl_encV _ (.mk n1 m1 (x :: s1) c1 w1)) ⟨by rw [show laterF (.mk n1 m1 (x :: s1) c1 w1) (.mk n2 m2 [] c2 w2) = .mk n1 m1 (x :: s1) c1 w1 from if_neg (by simp [Val.sv])]; rfl, rfl⟩
 ·
  refine mwp_draw [] [_] mo (by decide) rfl rfl rfl rfl ?_
  refine dO rfl rfl rfl (op_fieldAddr_ref rfl rfl fo30_2 ⟨rfl, rfl⟩) <| dO rfl rfl rfl (op_load' rfl rfl rfl ta26 rfl ⟨rfl, rfl⟩) <| dO rfl rfl rfl (op_len_lst rfl Tryz.underlying26 rfl ⟨rfl, rfl⟩) <| dO rfl rfl rfl (op_cmp rfl rfl rfl (eq_cons) ⟨rfl, rfl⟩) <| dO rfl rfl rfl (op_move rfl rfl ⟨rfl, rfl⟩) <| dO rfl rfl rfl (op_fieldAddr_ref rfl rfl fo30_2 ⟨rfl, rfl⟩) <| dO rfl rfl rfl (op_load' rfl rfl rfl ta26 rfl ⟨rfl, rfl⟩) <| dO rfl rfl rfl (op_len_lst rfl Tryz.underlying26 rfl ⟨rfl, rfl⟩) <| dO rfl rfl rfl (op_cmp rfl rfl rfl (gt_cons) ⟨rfl, rfl⟩) <| dO rfl rfl rfl (op_move rfl rfl ⟨rfl, rfl⟩) <| dO rfl rfl rfl (op_fieldAddr_ref rfl rfl fo30_0 ⟨rfl, rfl⟩) <| dO rfl rfl rfl (op_load' rfl rfl rfl ta25 rfl ⟨rfl, rfl⟩) <| dO rfl rfl rfl (op_fieldAddr_ref rfl rfl fo30_0 ⟨rfl, rfl⟩) <| dO rfl rfl rfl (op_load' rfl rfl rfl ta25 rfl ⟨rfl, rfl⟩) <| dOps_op rfl rfl (.cons (op_call rfl rfl rfl co119 (compareu_spec n1 n2 _)) .nil) <| dO rfl rfl rfl (op_fieldAddr_ref rfl rfl fo30_1 ⟨rfl, rfl⟩) <| dO rfl rfl rfl (op_load' rfl rfl rfl ta25 rfl ⟨rfl, rfl⟩) <| dO rfl rfl rfl (op_fieldAddr_ref rfl rfl fo30_1 ⟨rfl, rfl⟩) <| dO rfl rfl rfl (op_load' rfl rfl rfl ta25 rfl ⟨rfl, rfl⟩) <| dOps_op rfl rfl (.cons (op_call rfl rfl rfl co119 (compareu_spec m1 m2 _)) .nil) <| dO rfl rfl rfl (op_fieldAddr_ref rfl rfl fo30_2 ⟨rfl, rfl⟩) <| dO rfl rfl rfl (op_load' rfl rfl rfl ta26 rfl ⟨rfl, rfl⟩) <| dO rfl rfl rfl (op_indexAddr rfl Tryz.underlying26 sz9 (by decide) rfl rfl rfl (show _ = some (encX x) from rfl) ⟨rfl, rfl⟩) ?_
  refine dO rfl rfl rfl (op_load_sptr rfl rfl ta9 rfl ⟨rfl, rfl⟩) <| dO rfl rfl rfl (op_fieldAddr_ref rfl rfl fo30_2 ⟨rfl, rfl⟩) <| dO rfl rfl rfl (op_load' rfl rfl rfl ta26 rfl ⟨rfl, rfl⟩) <| dO rfl rfl rfl (op_indexAddr rfl Tryz.underlying26 sz9 (by decide) rfl rfl rfl (show _ = some (encX y) from rfl) ⟨rfl, rfl⟩) ?_
  refine dO rfl rfl rfl (op_load_sptr rfl rfl ta9 rfl ⟨rfl, rfl⟩) <| dOps_op rfl rfl (.cons (op_call rfl rfl rfl co124 (strCmp_spec x y _)) .nil) <| dO rfl rfl rfl (op_buildSlice rfl Tryz.underlying158 el3 rfl rfl (by decide) (by decide) rfl rfl ⟨rfl, rfl⟩) ?_
  refine dOps_op rfl rfl (.cons (op_call rfl rfl rfl co117 (cmpOr_spec [cmpI n1 n2, cmpI m1 m2, cmpX x y] _)) .nil) <| dO rfl rfl rfl (op_cmp rfl rfl rfl rfl ⟨rfl, rfl⟩) <| dO rfl rfl rfl (op_pick rfl rfl rfl ⟨rfl, rfl⟩) <| dO rfl rfl rfl (op_pick rfl rfl rfl ⟨rfl, rfl⟩) <| dOps_nil ?_
  refine mwp_cond_split rfl (fun h38 => ?_) (fun h38 => ?_)
  ·
   refine mwp_seq <| qR rfl <| qL rfl rfl rfl rfl ta30 rfl <| qO rfl <| op_store' rfl rfl rfl rfl sz30 rfl rfl (Nat.le_of_ble_eq_true rfl) rfl <| qN <| mwp_ret ?_
   exact ret_cell (.inr rfl) Tryz.results104 rfl rfl ta30 rfl (.refl _) (cl_encV _ (.mk n2 m2 (y :: s2) c2 w2)) ⟨by rw [show laterF (.mk n1 m1 (x :: s1) c1 w1) (.mk n2 m2 (y :: s2) c2 w2) = .mk n2 m2 (y :: s2) c2 w2 from if_pos (.inr ⟨by simp [Val.sv], by rw [or_three] at h38; simpa [laterC, Val.nv, Val.mv, Val.sv] using h38⟩)]; rfl, rfl⟩
  ·
   refine mwp_skip <| mwp_seq <| qR rfl <| qL rfl rfl rfl rfl ta30 rfl <| qO rfl <| op_store' rfl rfl rfl rfl sz30 rfl rfl (Nat.le_of_ble_eq_true rfl) rfl <| qN <| mwp_ret ?_
   exact ret_cell (.inr rfl) Tryz.results104 rfl rfl ta30 rfl (.refl _) (cl_encV _ (.mk n1 m1 (x :: s1) c1 w1)) ⟨by rw [show laterF (.mk n1 m1 (x :: s1) c1 w1) (.mk n2 m2 (y :: s2) c2 w2) = .mk n1 m1 (x :: s1) c1 w1 from if_neg (by rw [or_three] at h38; simpa [laterC, Val.nv, Val.mv, Val.sv] using h38)]; rfl, rfl⟩
theorem clocks_spec (n1 m1 : Int) (s1 : List Bs) (c1 : List (List Tk)) (w1 : List Val) (n2 m2 : Int) (s2 : List Bs) (c2 : List (List Tk)) (w2 : List Val) (hl : ∀ x ∈ c1, ∀ y ∈ c2, x.length + y.length ≤ 1000000) (S : MS) : MCalls Tryz.prog 105 [encV (.mk n1 m1 s1 c1 w1), encV (.mk n2 m2 s2 c2 w2)] S fun v σ' => v = encV (clocksF (.mk n1 m1 s1 c1 w1) (.mk n2 m2 s2 c2 w2)) ∧ σ' = S := by
 refine mcalls_body Tryz.func105 rfl Tryz.ntmps105 (Nat.le_of_ble_eq_true rfl) ?_
 refine mwp_seq <| qR rfl <| qB rfl rfl rfl rfl rfl <| qB rfl rfl rfl rfl rfl <| qO rfl <| op_alloc' rfl zm30 rfl rfl <| qN <| mwp_seq <| mwp_block <| mwp_seq ?_
 rcases c1 with _ | ⟨x, c1⟩ <;> rcases c2 with _ | ⟨y, c2⟩
 ·
  refine qR rfl <| qF rfl rfl rfl fo30_3 <| qL rfl rfl rfl rfl ta27 rfl <| qE rfl rfl Tryz.underlying27 rfl <| qC rfl rfl rfl rfl (eq_nil) <| qA rfl rfl rfl <| qN <| mwp_cond_t rfl (rfl) <| mwp_seq <| qR rfl <| qL rfl rfl rfl rfl ta30 rfl <| qO rfl <| op_store' rfl rfl rfl rfl sz30 rfl rfl (Nat.le_of_ble_eq_true rfl) rfl <| qN <| mwp_ret ?_
  exact ret_cell (.inr rfl) Tryz.results105 rfl rfl ta30 rfl (.refl _) (cl_encV _ (.mk n2 m2 s2 [] w2)) ⟨rfl, rfl⟩
 ·
  refine qR rfl <| qF rfl rfl rfl fo30_3 <| qL rfl rfl rfl rfl ta27 rfl <| qE rfl rfl Tryz.underlying27 rfl <| qC rfl rfl rfl rfl (eq_nil) <| qA rfl rfl rfl <| qN <| mwp_cond_t rfl (rfl) <| mwp_seq <| qR rfl <| qL rfl rfl rfl rfl ta30 rfl <| qO rfl <| op_store' rfl rfl rfl rfl sz30 rfl rfl (Nat.le_of_ble_eq_true rfl) rfl <| qN <| mwp_ret ?_
  exact ret_cell (.inr rfl) Tryz.results105 rfl rfl ta30 rfl (.refl _) (cl_encV _ (.mk n2 m2 s2 (y :: c2) w2)) ⟨rfl, rfl⟩
 ·
  refine qR rfl <| qF rfl rfl rfl fo30_3 <| qL rfl rfl rfl rfl ta27 rfl <| qE rfl rfl Tryz.underlying27 rfl <| qC rfl rfl rfl rfl (eq_cons) <| qA rfl rfl rfl <| qN <| mwp_cond_f rfl (rfl) <| mwp_seq <| qR rfl <| qF rfl rfl rfl fo30_3 <| qL rfl rfl rfl rfl ta27 rfl <| qE rfl rfl Tryz.underlying27 rfl <| qC rfl rfl rfl rfl (eq_nil) <| qA rfl rfl rfl <| qN <| mwp_cond_t rfl (rfl) <| mwp_seq <| qR rfl <| qL rfl rfl rfl rfl ta30 rfl ?_
  refine qO rfl <| op_store' rfl rfl rfl rfl sz30 rfl rfl (Nat.le_of_ble_eq_true rfl) rfl <| qN <| mwp_ret ?_
  exact ret_cell (.inr rfl) Tryz.results105 rfl rfl ta30 rfl (.refl _) (cl_encV _ (.mk n1 m1 s1 (x :: c1) w1)) ⟨rfl, rfl⟩
 ·
  refine qR rfl <| qF rfl rfl rfl fo30_3 <| qL rfl rfl rfl rfl ta27 rfl <| qE rfl rfl Tryz.underlying27 rfl <| qC rfl rfl rfl rfl (eq_cons) <| qA rfl rfl rfl <| qN <| mwp_cond_f rfl (rfl) <| mwp_seq <| qR rfl <| qF rfl rfl rfl fo30_3 <| qL rfl rfl rfl rfl ta27 rfl <| qE rfl rfl Tryz.underlying27 rfl <| qC rfl rfl rfl rfl (eq_cons) <| qA rfl rfl rfl <| qN <| mwp_cond_f rfl (rfl) <| mwp_skip <| mwp_seq ?_
  refine mwp_draw [11] [_, S ++ [.cells (encV (.mk n1 m1 s1 (x :: c1) w1)).cells, .cells (encV (.mk n2 m2 s2 (y :: c2) w2)).cells, .cells [.int .u64 0, .int .u64 0, .lst0, .lst none 1 [encC (joinF x y)], .lst0]]] mo (by decide) rfl rfl rfl rfl ?_
  refine dO rfl rfl rfl (op_fieldAddr_ref rfl rfl fo30_3 ⟨rfl, rfl⟩) <| dO rfl rfl rfl (op_load' rfl rfl rfl ta27 rfl ⟨rfl, rfl⟩) <| dO rfl rfl rfl (op_indexAddr rfl Tryz.underlying27 sz55 (by decide) rfl rfl rfl (show _ = some (encC x) from rfl) ⟨rfl, rfl⟩) ?_
  refine dO rfl rfl rfl (op_load_sptr rfl rfl ta55 rfl ⟨rfl, rfl⟩) <| dO rfl rfl rfl (op_fieldAddr_ref rfl rfl fo30_3 ⟨rfl, rfl⟩) <| dO rfl rfl rfl (op_load' rfl rfl rfl ta27 rfl ⟨rfl, rfl⟩) <| dO rfl rfl rfl (op_indexAddr rfl Tryz.underlying27 sz55 (by decide) rfl rfl rfl (show _ = some (encC y) from rfl) ⟨rfl, rfl⟩) ?_
  refine dO rfl rfl rfl (op_load_sptr rfl rfl ta55 rfl ⟨rfl, rfl⟩) <| dOps_op rfl rfl (.cons (op_call rfl rfl rfl co120 (clkJoin_spec x y (hl x (by simp) y (by simp)) _)) .nil) ?_
  refine dO rfl rfl rfl (op_buildSlice rfl Tryz.underlying27 el55 rfl rfl (by decide) (by decide) rfl rfl ⟨rfl, rfl⟩) ?_
  refine dO rfl rfl rfl (op_build rfl Tryz.underlying30 zm30 (.cons fo30_3 sz27 rfl rfl (Nat.le_of_ble_eq_true rfl) .nil) (by kernel_rfl) ⟨rfl, rfl⟩) ?_
  refine dOps_eff rfl rfl rfl rfl (op_store' rfl rfl rfl rfl sz30 rfl rfl (Nat.le_of_ble_eq_true rfl) rfl ⟨rfl, rfl⟩) <| dOps_nil <| mwp_ret ?_
  exact ret_cell (.inr rfl) Tryz.results105 rfl rfl ta30 rfl (.agg (.cons (.refl _) (.cons (.refl _) (.cons (.nil 1) (.cons (.refl _) (.cons (.nil 5) .nil)))))) (cl_encV _ (.mk 0 0 [] [joinF x y] [])) ⟨rfl, rfl⟩
end Go.Proofs.YtnfcnpdpfgcchaaGreat
end
section
set_option linter.unusedVariables false
set_option linter.unusedSimpArgs false
set_option maxRecDepth 20000
set_option maxHeartbeats 400000
namespace Go.Proofs.YtnfcnpdpfgcchaaGreat
open Go Go.MV
theorem stJ_fl {cmp : List Tk → List Tk → Int} {a b : List (REnt (List Tk))} {S : MS} (A : MS) {x y z : MObj} {j : Nat} : stJ cmp a b (S ++ (A ++ [x, y, z])) (S ++ A).length ((S ++ A).length + 1) j = S ++ (A ++ [.cells [.lst none 3 ((restE cmp a b j).1.map (encR encC))], .cells [.lst none 3 ((restE cmp a b j).2.map (encR encC))], z]) := by
 unfold stJ
 rw [← List.append_assoc, List.set_append_right _ _ (Nat.le_refl _), Nat.sub_self, List.set_append_right _ _ (by simp), ← List.append_assoc]
 simp
theorem get_fl {S : MS} (A : MS) {B : MS} (k : Nat) {o : MObj} (h : B[k]? = some o) : (S ++ (A ++ B))[(S ++ A).length + k]? = some o := by
 rw [← List.append_assoc, getElem?_own]
 exact h
theorem cl_outC {acc : List (List Tk × Val)} {t u n : Nat} (ht : t < n) (hu : u < n) : (MObj.cells [.int .u64 0, .int .u64 0, .lst0, .lst (some t) 1 (acc.map fun e => encC e.1), .lst (some u) 5 (acc.map fun e => encV e.2)]).cl n := by
 intro x hx
 simp only [List.mem_cons, List.not_mem_nil, or_false] at hx
 rcases hx with rfl | rfl | rfl | rfl | rfl
 ·exact .int _ _
 ·exact .int _ _
 ·exact .lst0
 ·exact cl_lstT ht (fun e : List Tk × Val => cl_encC n e.1) (fun e => .inr rfl)
 ·exact cl_lstT hu (fun e : List Tk × Val => cl_encV n e.2) (fun e => by cases e.2; exact .inl rfl)
theorem one_encE (e : Ent (List Tk)) : (encE encC e).cells.all MV.one = true := by obtain ⟨k, v, o⟩ := e; cases o <;> rfl
theorem filt_snoc {α : Type} {l : List α} {p : α → Bool} {i : Nat} {a : α} (h : l[i]? = some a) : (l.take (i + 1)).filter p = (l.take i).filter p ++ (if p a then [a] else []) := by
 rw [List.take_add_one, h, Option.toList_some, List.filter_append]
 congr 1
 simp [List.filter_cons]
theorem goE_snoc {κ : Type} {f : Val → Val → Option Val} {a : List (Ent κ)} {x : List (κ × Val)} {e : Ent κ} {v : Val} (h : goE f a = some x) (he : ofE f e = some v) : goE f (a ++ [e]) = some (x ++ [(e.1, v)]) := by
 rw [goE_append, h]
 simp [goE, he]
theorem goE_bad {κ : Type} {f : Val → Val → Option Val} : ∀ {a : List (Ent κ)} {e : Ent κ}, e ∈ a → ofE f e = none → goE f a = none
 | x :: a, e, h, he => by
  rw [goE]
  rcases List.mem_cons.1 h with rfl | h
  ·rw [he]
  ·rw [goE_bad h he]
   cases ofE f x <;> rfl
theorem filt_len {α : Type} (l : List α) (p : α → Bool) (i : Nat) : ((l.take i).filter p).length ≤ i := Nat.le_trans (List.length_filter_le _ _) (by rw [List.length_take]; omega)
theorem zip_mem1 {α β : Type} {a : List α} {b : List β} {x : α} {y : β} (h : (x, y) ∈ a.zip b) : x ∈ a := (List.of_mem_zip h).1
theorem zip_mem2 {α β : Type} {a : List α} {b : List β} {x : α} {y : β} (h : (x, y) ∈ a.zip b) : y ∈ b := (List.of_mem_zip h).2
theorem causes_spec (k k1 : Int) (i1 rest : List Sch) (f : Val → Val → Option Val) (n1 m1 : Int) (s1 : List Bs) (c1 : List (List Tk)) (w1 : List Val) (n2 m2 : Int) (s2 : List Bs) (c2 : List (List Tk)) (w2 : List Val) (hl1 : c1.length = w1.length) (hl2 : c2.length = w2.length) (h1 : c1.length ≤ 40) (h2 : c2.length ≤ 40) (hk1 : ∀ x ∈ c1, x.length ≤ 1000) (hk2 : ∀ x ∈ c2, x.length ≤ 1000) (hb : ∀ x ∈ w1, ∀ y ∈ w2, ∀ S : MS, MCalls Tryz.prog 83 [encS (.mk k1 i1), encV x, encV y] S fun v σ' => v = encO (f x y) ∧ σ' = S) (S : MS) : MCalls Tryz.prog 106 [encS (.mk k (.mk k1 i1 :: rest)), encV (.mk n1 m1 s1 c1 w1), encV (.mk n2 m2 s2 c2 w2)] S fun v σ' => v = encO (causesF f (.mk n1 m1 s1 c1 w1) (.mk n2 m2 s2 c2 w2)) ∧ σ' = S := by
 refine mcalls_body Tryz.func106 rfl Tryz.ntmps106 (Nat.le_of_ble_eq_true rfl) ?_
 generalize hl : mergedC (.mk n1 m1 s1 c1 w1) (.mk n2 m2 s2 c2 w2) = l
 have hll : l.length ≤ 80 := by rw [← hl]; have := mergeE_len byTicksF (c1.zip w1) (c2.zip w2); simp only [mergedC, entC, Val.cv, Val.vv, List.length_zip] at *; omega
 have hlen : l.length ≤ maxLen := by simp only [maxLen]; omega
 have hmem : ∀ e ∈ l, e.1.length ≤ 1000 ∧ ∀ y, e.2.2 = some y → e.2.1 ∈ w1 ∧ y ∈ w2 := fun e h => by
  obtain ⟨p, q⟩ := mergeE_mem _ _ _ e (by rw [← hl] at h; exact h)
  refine ⟨p.elim (fun h => hk1 _ (zip_mem1 h)) (fun h => hk2 _ (zip_mem1 h)), fun y hy => ?_⟩
  obtain ⟨q1, k, q2⟩ := q y hy
  exact ⟨zip_mem2 q1, zip_mem2 q2⟩
 refine mwp_seq <| qR rfl <| qB rfl rfl rfl rfl rfl <| qB rfl rfl rfl rfl rfl <| qB rfl rfl rfl rfl rfl <| qO rfl <| op_alloc' rfl zm30 rfl rfl <| qA rfl rfl rfl <| qN <| mwp_seq ?_
 refine mwp_draw [10, 11] [_, S ++ [.cells (encS (.mk k (.mk k1 i1 :: rest))).cells, .cells (encV (.mk n1 m1 s1 c1 w1)).cells, .cells (encV (.mk n2 m2 s2 c2 w2)).cells, .cells [.int .u64 0, .int .u64 0, .lst0, .lst0, .lst0], .cells [.lst none 3 ((c1.zip w1).map (encR encC))], .cells [.lst none 3 ((c2.zip w2).map (encR encC))], .cells [.fn (.func 129) [] []]], S ++ [.cells (encS (.mk k (.mk k1 i1 :: rest))).cells, .cells (encV (.mk n1 m1 s1 c1 w1)).cells, .cells (encV (.mk n2 m2 s2 c2 w2)).cells, .cells [.int .u64 0, .int .u64 0, .lst0, .lst0, .lst0], .cells [.lst none 3 ((restE byTicksF (c1.zip w1) (c2.zip w2) (mergedC (.mk n1 m1 s1 c1 w1) (.mk n2 m2 s2 c2 w2)).length).1.map (encR encC))], .cells [.lst none 3 ((restE byTicksF (c1.zip w1) (c2.zip w2) (mergedC (.mk n1 m1 s1 c1 w1) (.mk n2 m2 s2 c2 w2)).length).2.map (encR encC))], .cells [.fn (.func 129) [] []]]] mo (by decide) rfl rfl rfl rfl ?_
 refine dOps_op rfl rfl (.cons (op_fieldAddr_ref rfl rfl fo30_3 ⟨rfl, rfl⟩) (.cons (op_fieldAddr_ref rfl rfl fo30_3 ⟨rfl, rfl⟩) (.cons (op_fieldAddr_ref rfl rfl fo30_3 ⟨rfl, rfl⟩) (.nil)))) <| dOps_op rfl rfl (.cons (op_load' rfl rfl rfl ta27 rfl ⟨rfl, rfl⟩) (.cons (op_load' rfl rfl rfl ta27 rfl ⟨rfl, rfl⟩) (.cons (op_load' rfl rfl rfl ta27 rfl ⟨rfl, rfl⟩) (.nil)))) <| dOps_op rfl rfl (.cons (op_fieldAddr_ref rfl rfl fo30_4 ⟨rfl, rfl⟩) (.cons (op_fieldAddr_ref rfl rfl fo30_4 ⟨rfl, rfl⟩) (.cons (op_fieldAddr_ref rfl rfl fo30_4 ⟨rfl, rfl⟩) (.nil)))) <| dOps_op rfl rfl (.cons (op_load' rfl rfl rfl ta28 rfl ⟨rfl, rfl⟩) (.cons (op_load' rfl rfl rfl ta28 rfl ⟨rfl, rfl⟩) (.cons (op_load' rfl rfl rfl ta28 rfl ⟨rfl, rfl⟩) (.nil)))) <| dOps_op rfl rfl (.cons (op_call rfl rfl rfl co128 (crow_spec c1 w1 hl1 (by omega) _)) .nil) ?_
 refine dOps_op rfl rfl (.cons (op_fieldAddr_ref rfl rfl fo30_3 ⟨rfl, rfl⟩) (.cons (op_fieldAddr_ref rfl rfl fo30_3 ⟨rfl, rfl⟩) (.cons (op_fieldAddr_ref rfl rfl fo30_3 ⟨rfl, rfl⟩) (.nil)))) <| dOps_op rfl rfl (.cons (op_load' rfl rfl rfl ta27 rfl ⟨rfl, rfl⟩) (.cons (op_load' rfl rfl rfl ta27 rfl ⟨rfl, rfl⟩) (.cons (op_load' rfl rfl rfl ta27 rfl ⟨rfl, rfl⟩) (.nil)))) <| dOps_op rfl rfl (.cons (op_fieldAddr_ref rfl rfl fo30_4 ⟨rfl, rfl⟩) (.cons (op_fieldAddr_ref rfl rfl fo30_4 ⟨rfl, rfl⟩) (.cons (op_fieldAddr_ref rfl rfl fo30_4 ⟨rfl, rfl⟩) (.nil)))) <| dOps_op rfl rfl (.cons (op_load' rfl rfl rfl ta28 rfl ⟨rfl, rfl⟩) (.cons (op_load' rfl rfl rfl ta28 rfl ⟨rfl, rfl⟩) (.cons (op_load' rfl rfl rfl ta28 rfl ⟨rfl, rfl⟩) (.nil)))) <| dOps_op rfl rfl (.cons (op_call rfl rfl rfl co128 (crow_spec c2 w2 hl2 (by omega) _)) .nil) ?_
 refine dOps_eff rfl rfl rfl rfl (op_call rfl rfl rfl co127 ((cmerged_spec (c1.zip w1) (c2.zip w2) _ _).mono fun _ _ h => ⟨h.1, h.2.trans (List.append_assoc ..)⟩)) ?_
 refine dOps_eff rfl rfl rfl rfl (op_call rfl rfl rfl co126 ((collect_spec (c1.zip w1) (c2.zip w2) (by rw [List.length_zip, List.length_zip]; omega) 129 byTicksF co129 (fun a b S => jTicks_spec a b S) _ _ _ (by omega) (by omega) (by omega) _ (get_fl [_, _, _, _] 0 rfl) (get_fl [_, _, _, _] 1 rfl) (get_fl [_, _, _, _] 2 rfl)).mono fun _ _ h => ⟨h.1.trans (congrArg (fun z => MV.lst none 3 (z.map (encE encC))) hl), h.2.trans (stJ_fl [_, _, _, _])⟩)) ?_
 refine dO rfl rfl rfl (op_assign rfl rfl ⟨rfl, rfl⟩) <| dOps_nil <| mwp_seq <| qR rfl <| qO rfl <| op_alloc' rfl zm30 rfl rfl <| qN <| mwp_seq <| mwp_seq <| qR rfl <| qM rfl rfl rfl <| qE rfl rfl Tryz.underlying146 rfl <| qM rfl rfl rfl <| qN <| mwp_block <| mwp_cellrowAt 7 3 55 1 rfl rfl (Nat.le_refl _) rfl rfl <| mwp_cellrowAt 7 4 30 5 rfl rfl (Nat.le_refl _) rfl rfl ?_
 refine mwp_loopKJ (α := Nat × List (List Tk × Val)) [(3, _), (6, _), (8, _), (9, _), (26, _), (27, _)] (fun x => [(28, .int .i64 (x.1 : Int))]) (fun x => [.cells (encS (.mk k (.mk k1 i1 :: rest))).cells, .cells (encV (.mk n1 m1 s1 c1 w1)).cells, .cells (encV (.mk n2 m2 s2 c2 w2)).cells, .cells [.int .u64 0, .int .u64 0, .lst0, .lst0, .lst0], .cells [.lst none 3 ((restE byTicksF (c1.zip w1) (c2.zip w2) (mergedC (.mk n1 m1 s1 c1 w1) (.mk n2 m2 s2 c2 w2)).length).1.map (encR encC))], .cells [.lst none 3 ((restE byTicksF (c1.zip w1) (c2.zip w2) (mergedC (.mk n1 m1 s1 c1 w1) (.mk n2 m2 s2 c2 w2)).length).2.map (encR encC))], .cells [.fn (.func 129) [] []], .cells [.int .u64 0, .int .u64 0, .lst0, .lst (some (S.length + 8)) 1 ((x.2.map fun e => encC e.1)), .lst (some (S.length + 9)) 5 ((x.2.map fun e => encV e.2))], .row 55 1 x.2.length, .row 30 5 x.2.length]) (fun x => x.1 ≤ l.length ∧ goE f ((l.take x.1).filter (fun e => !seenE l e)) = some x.2) (fun x => l.length - x.1) (⟨0, []⟩) (Nat.le_refl _) (.keep rfl (.keep rfl (.keep rfl (.keep rfl (.keep rfl (.keep rfl (.nil))))))) (.keep rfl (.nil)) (⟨by simp, rfl⟩) (rfl) ?_
 rintro ⟨i, acc⟩ ⟨hi, he⟩
 dsimp only at hi he ⊢
 have hal : acc.length ≤ 1000 := by have h1 := goE_len he; have h2 := filt_len l (fun e => !seenE l e) i; omega
 refine mwp_seq <| qR rfl <| qC rfl rfl rfl rfl rfl <| qN <| mwp_seq ?_
 refine mwp_cond_split rfl (fun h29 => ?_) (fun h29 => ?_)
 ·
  have hlt : i < l.length := by simpa using h29
  obtain ⟨e, hs⟩ : ∃ q_, l[i]? = some q_ := ⟨_, List.getElem?_eq_getElem hlt⟩
  refine mwp_skip <| mwp_seq <| mwp_block <| mwp_seq <| qR rfl <| qO rfl <| op_indexAddr rfl Tryz.underlying146 sz149 (by decide) rfl rfl rfl (get_map hs) ?_
  refine qO rfl <| op_load_sptr rfl rfl ta149 rfl <| qO rfl <| op_alloc' rfl zm149 rfl rfl <| qO rfl <| op_store' rfl rfl rfl rfl sz149 rfl (one_encE e) (Nat.le_of_ble_eq_true rfl) rfl <| qN <| mwp_seq <| mwp_seq <| qR rfl <| qM rfl rfl rfl <| qO rfl <| op_makeFunc rfl rfl rfl ?_
  refine wOps_op rfl (op_call rfl rfl rfl co130 ((eContains_spec _ l (fun o => decide (cmpF e.1 o.1 = -1)) _ [] [.ref (S.length + 10) 0] co131 (fun x hx X => causes1_spec e x (by have h1 := (hmem e (List.mem_of_getElem? hs)).1; have h2 := (hmem x hx).1; omega) _ _ (get_mid_ (k := 10) rfl))).mono ?_))
  rintro _ _ ⟨rfl, rfl⟩
  refine qN ?_
  refine mwp_cond_split rfl (fun h34 => ?_) (fun h34 => ?_)
  ·
   refine mwp_exit <| qR rfl <| qO rfl <| op_arith rfl rfl rfl rfl <| qM rfl rfl rfl <| qN ?_
   refine ⟨⟨i + 1, acc⟩, _, by dsimp only; omega, ⟨by dsimp only; omega, by dsimp only; rw [filt_snoc hs, if_neg (by simp [seenE, show (l.any fun o => decide (cmpF e.1 o.1 = -1)) = true from h34]), List.append_nil]; exact he⟩, rfl, LTo.refl _ _, (.old rfl rfl (.old rfl rfl (.old rfl rfl (.old rfl rfl (.old rfl rfl (.old rfl rfl (.nil))))))), (.new' rfl (int_succ hlt hlen) (.int _ _) (.nil))⟩
  ·
   refine mwp_skip <| mwp_seq ?_
   have hof := fun S => cof_spec k1 i1 f e (fun y hy S => hb _ ((hmem e (List.mem_of_getElem? hs)).2 y hy).1 y ((hmem e (List.mem_of_getElem? hs)).2 y hy).2 S) S
   rcases hf : ofE f e with _ | ⟨⟨n3, m3, s3, c3, w3⟩⟩ <;> rw [hf] at hof
   ·
    refine mwp_draw [9, 10] [_, S ++ [.cells (encS (.mk k (.mk k1 i1 :: rest))).cells, .cells (encV (.mk n1 m1 s1 c1 w1)).cells, .cells (encV (.mk n2 m2 s2 c2 w2)).cells, .cells [.int .u64 0, .int .u64 0, .lst0, .lst0, .lst0], .cells [.lst none 3 ((restE byTicksF (c1.zip w1) (c2.zip w2) (mergedC (.mk n1 m1 s1 c1 w1) (.mk n2 m2 s2 c2 w2)).length).1.map (encR encC))], .cells [.lst none 3 ((restE byTicksF (c1.zip w1) (c2.zip w2) (mergedC (.mk n1 m1 s1 c1 w1) (.mk n2 m2 s2 c2 w2)).length).2.map (encR encC))], .cells [.fn (.func 129) [] []], .cells [.int .u64 0, .int .u64 0, .lst0, .lst (some (S.length + 8)) 1 ((acc.map fun e => encC e.1)), .lst (some (S.length + 9)) 5 ((acc.map fun e => encV e.2))], .row 55 1 acc.length, .row 30 5 acc.length, .cells (encE encC e).cells, .cells [.int .u64 0, .int .u64 0, .lst0, .lst0, .lst0]], S ++ [.cells (encS (.mk k (.mk k1 i1 :: rest))).cells, .cells (encV (.mk n1 m1 s1 c1 w1)).cells, .cells (encV (.mk n2 m2 s2 c2 w2)).cells, .cells [.int .u64 0, .int .u64 0, .lst0, .lst0, .lst0], .cells [.lst none 3 ((restE byTicksF (c1.zip w1) (c2.zip w2) (mergedC (.mk n1 m1 s1 c1 w1) (.mk n2 m2 s2 c2 w2)).length).1.map (encR encC))], .cells [.lst none 3 ((restE byTicksF (c1.zip w1) (c2.zip w2) (mergedC (.mk n1 m1 s1 c1 w1) (.mk n2 m2 s2 c2 w2)).length).2.map (encR encC))], .cells [.fn (.func 129) [] []], .cells [.int .u64 0, .int .u64 0, .lst0, .lst (some (S.length + 8)) 1 ((acc.map fun e => encC e.1)), .lst (some (S.length + 9)) 5 ((acc.map fun e => encV e.2))], .row 55 1 acc.length, .row 30 5 acc.length, .cells (encE encC e).cells, .cells (encV noV).cells]] mo (by decide) rfl rfl rfl rfl ?_
    refine dOps_op rfl rfl (.cons (op_fieldAddr_ref rfl rfl fo24_1 ⟨rfl, rfl⟩) (.cons (op_fieldAddr_ref rfl rfl fo24_1 ⟨rfl, rfl⟩) (.nil))) <| dOps_op rfl rfl (.cons (op_load' rfl rfl rfl ta22 rfl ⟨rfl, rfl⟩) (.cons (op_load' rfl rfl rfl ta22 rfl ⟨rfl, rfl⟩) (.nil))) <| dOps_op rfl rfl (.cons (op_indexAddr rfl Tryz.underlying22 sz24 (by decide) rfl rfl rfl (show _ = some (encS (.mk k1 i1)) from rfl) ⟨rfl, rfl⟩) (.cons (op_indexAddr rfl Tryz.underlying22 sz24 (by decide) rfl rfl rfl (show _ = some (encS (.mk k1 i1)) from rfl) ⟨rfl, rfl⟩) (.nil))) ?_
    refine dOps_op rfl rfl (.cons (op_load_sptr rfl rfl ta24 rfl ⟨rfl, rfl⟩) (.cons (op_load_sptr rfl rfl ta24 rfl ⟨rfl, rfl⟩) (.nil))) <| dOps_op rfl rfl (.cons (op_load' rfl rfl rfl ta149 rfl ⟨rfl, rfl⟩) (.cons (op_load' rfl rfl rfl ta149 rfl ⟨rfl, rfl⟩) (.nil))) <| dOps_op rfl rfl (.cons (op_call rfl rfl rfl co132 (hof _)) (.cons (op_call rfl rfl rfl co132 (hof _)) (.nil))) <| dOps_op rfl rfl (.cons (op_move rfl rfl ⟨rfl, rfl⟩) (.cons (op_move rfl rfl ⟨rfl, rfl⟩) (.nil))) <| dOps_op rfl rfl (.cons (op_extract rfl rfl rfl ⟨rfl, rfl⟩) (.cons (op_extract rfl rfl rfl ⟨rfl, rfl⟩) (.nil))) <| dOps_op rfl rfl (.cons (op_extract rfl rfl rfl ⟨rfl, rfl⟩) (.cons (op_extract rfl rfl rfl ⟨rfl, rfl⟩) (.cons (op_extract rfl rfl rfl ⟨rfl, rfl⟩) (.nil)))) <| dOps_eff rfl rfl rfl rfl (op_alloc' rfl zm30 rfl rfl ⟨rfl, rfl⟩) <| dOps_eff rfl rfl rfl rfl (op_store' rfl rfl rfl rfl sz30 rfl rfl (Nat.le_of_ble_eq_true rfl) rfl ⟨rfl, rfl⟩) <| dO rfl rfl rfl (op_assign rfl rfl ⟨rfl, rfl⟩) <| dOps_nil <| mwp_seq <| mwp_seq <| qR rfl <| qM rfl rfl rfl <| qO rfl <| op_ifnil rfl Tryz.underlying34 rfl rfl (.inr ⟨rfl, rfl⟩) <| qN <| mwp_cond_t rfl (rfl) <| mwp_seq <| qR rfl <| qO rfl <| op_build rfl Tryz.underlying30 zm30 .nil (by kernel_rfl) ?_
    refine qM rfl rfl rfl <| qO rfl <| op_store' rfl rfl rfl rfl sz30 rfl rfl (Nat.le_of_ble_eq_true rfl) rfl <| qA rfl rfl rfl <| qN <| mwp_ret ?_
    exact ret_cell_tmp (.inr rfl) Tryz.results106 rfl rfl ta30 rfl (.agg (.cons (.refl _) (.cons (.refl _) (.cons (.nil 1) (.cons (.nil 1) (.cons (.nil 5) .nil)))))) (cl_encV _ (noV)) rfl (.refl _) (.iface _ _ (.int _ _)) ⟨by rw [show causesF f (.mk n1 m1 s1 c1 w1) (.mk n2 m2 s2 c2 w2) = none from by rw [causesF, hl, goE_bad (List.mem_filter.2 ⟨List.mem_of_getElem? hs, by simpa [seenE] using h34⟩) hf]; rfl]; rfl, rfl⟩
   ·
    refine mwp_draw [9, 10] [_, S ++ [.cells (encS (.mk k (.mk k1 i1 :: rest))).cells, .cells (encV (.mk n1 m1 s1 c1 w1)).cells, .cells (encV (.mk n2 m2 s2 c2 w2)).cells, .cells [.int .u64 0, .int .u64 0, .lst0, .lst0, .lst0], .cells [.lst none 3 ((restE byTicksF (c1.zip w1) (c2.zip w2) (mergedC (.mk n1 m1 s1 c1 w1) (.mk n2 m2 s2 c2 w2)).length).1.map (encR encC))], .cells [.lst none 3 ((restE byTicksF (c1.zip w1) (c2.zip w2) (mergedC (.mk n1 m1 s1 c1 w1) (.mk n2 m2 s2 c2 w2)).length).2.map (encR encC))], .cells [.fn (.func 129) [] []], .cells [.int .u64 0, .int .u64 0, .lst0, .lst (some (S.length + 8)) 1 ((acc.map fun e => encC e.1)), .lst (some (S.length + 9)) 5 ((acc.map fun e => encV e.2))], .row 55 1 acc.length, .row 30 5 acc.length, .cells (encE encC e).cells, .cells [.int .u64 0, .int .u64 0, .lst0, .lst0, .lst0]], S ++ [.cells (encS (.mk k (.mk k1 i1 :: rest))).cells, .cells (encV (.mk n1 m1 s1 c1 w1)).cells, .cells (encV (.mk n2 m2 s2 c2 w2)).cells, .cells [.int .u64 0, .int .u64 0, .lst0, .lst0, .lst0], .cells [.lst none 3 ((restE byTicksF (c1.zip w1) (c2.zip w2) (mergedC (.mk n1 m1 s1 c1 w1) (.mk n2 m2 s2 c2 w2)).length).1.map (encR encC))], .cells [.lst none 3 ((restE byTicksF (c1.zip w1) (c2.zip w2) (mergedC (.mk n1 m1 s1 c1 w1) (.mk n2 m2 s2 c2 w2)).length).2.map (encR encC))], .cells [.fn (.func 129) [] []], .cells [.int .u64 0, .int .u64 0, .lst0, .lst (some (S.length + 8)) 1 ((acc.map fun e => encC e.1)), .lst (some (S.length + 9)) 5 ((acc.map fun e => encV e.2))], .row 55 1 acc.length, .row 30 5 acc.length, .cells (encE encC e).cells, .cells (encV (.mk n3 m3 s3 c3 w3)).cells]] mo (by decide) rfl rfl rfl rfl ?_
    refine dOps_op rfl rfl (.cons (op_fieldAddr_ref rfl rfl fo24_1 ⟨rfl, rfl⟩) (.cons (op_fieldAddr_ref rfl rfl fo24_1 ⟨rfl, rfl⟩) (.nil))) <| dOps_op rfl rfl (.cons (op_load' rfl rfl rfl ta22 rfl ⟨rfl, rfl⟩) (.cons (op_load' rfl rfl rfl ta22 rfl ⟨rfl, rfl⟩) (.nil))) <| dOps_op rfl rfl (.cons (op_indexAddr rfl Tryz.underlying22 sz24 (by decide) rfl rfl rfl (show _ = some (encS (.mk k1 i1)) from rfl) ⟨rfl, rfl⟩) (.cons (op_indexAddr rfl Tryz.underlying22 sz24 (by decide) rfl rfl rfl (show _ = some (encS (.mk k1 i1)) from rfl) ⟨rfl, rfl⟩) (.nil))) ?_
    refine dOps_op rfl rfl (.cons (op_load_sptr rfl rfl ta24 rfl ⟨rfl, rfl⟩) (.cons (op_load_sptr rfl rfl ta24 rfl ⟨rfl, rfl⟩) (.nil))) <| dOps_op rfl rfl (.cons (op_load' rfl rfl rfl ta149 rfl ⟨rfl, rfl⟩) (.cons (op_load' rfl rfl rfl ta149 rfl ⟨rfl, rfl⟩) (.nil))) <| dOps_op rfl rfl (.cons (op_call rfl rfl rfl co132 (hof _)) (.cons (op_call rfl rfl rfl co132 (hof _)) (.nil))) <| dOps_op rfl rfl (.cons (op_move rfl rfl ⟨rfl, rfl⟩) (.cons (op_move rfl rfl ⟨rfl, rfl⟩) (.nil))) <| dOps_op rfl rfl (.cons (op_extract rfl rfl rfl ⟨rfl, rfl⟩) (.cons (op_extract rfl rfl rfl ⟨rfl, rfl⟩) (.nil))) <| dOps_op rfl rfl (.cons (op_extract rfl rfl rfl ⟨rfl, rfl⟩) (.cons (op_extract rfl rfl rfl ⟨rfl, rfl⟩) (.cons (op_extract rfl rfl rfl ⟨rfl, rfl⟩) (.nil)))) <| dOps_eff rfl rfl rfl rfl (op_alloc' rfl zm30 rfl rfl ⟨rfl, rfl⟩) <| dOps_eff rfl rfl rfl rfl (op_store' rfl rfl rfl rfl sz30 rfl rfl (Nat.le_of_ble_eq_true rfl) rfl ⟨rfl, rfl⟩) <| dO rfl rfl rfl (op_assign rfl rfl ⟨rfl, rfl⟩) <| dOps_nil <| mwp_seq <| mwp_seq <| qR rfl <| qM rfl rfl rfl <| qO rfl <| op_if0 rfl Tryz.underlying34 rfl rfl (.inr ⟨rfl, rfl⟩) <| qN <| mwp_cond_f rfl (rfl) <| mwp_skip ?_
    refine mwp_draw [5, 10, 12, 14] [_, S ++ [.cells (encS (.mk k (.mk k1 i1 :: rest))).cells, .cells (encV (.mk n1 m1 s1 c1 w1)).cells, .cells (encV (.mk n2 m2 s2 c2 w2)).cells, .cells [.int .u64 0, .int .u64 0, .lst0, .lst0, .lst0], .cells [.lst none 3 ((restE byTicksF (c1.zip w1) (c2.zip w2) (mergedC (.mk n1 m1 s1 c1 w1) (.mk n2 m2 s2 c2 w2)).length).1.map (encR encC))], .cells [.lst none 3 ((restE byTicksF (c1.zip w1) (c2.zip w2) (mergedC (.mk n1 m1 s1 c1 w1) (.mk n2 m2 s2 c2 w2)).length).2.map (encR encC))], .cells [.fn (.func 129) [] []], .cells [.int .u64 0, .int .u64 0, .lst0, .lst (some (S.length + 8)) 1 ((acc.map fun e => encC e.1)), .lst (some (S.length + 9)) 5 ((acc.map fun e => encV e.2))], .row 55 1 (acc.length + 1), .row 30 5 acc.length, .cells (encE encC e).cells, .cells (encV (.mk n3 m3 s3 c3 w3)).cells], S ++ [.cells (encS (.mk k (.mk k1 i1 :: rest))).cells, .cells (encV (.mk n1 m1 s1 c1 w1)).cells, .cells (encV (.mk n2 m2 s2 c2 w2)).cells, .cells [.int .u64 0, .int .u64 0, .lst0, .lst0, .lst0], .cells [.lst none 3 ((restE byTicksF (c1.zip w1) (c2.zip w2) (mergedC (.mk n1 m1 s1 c1 w1) (.mk n2 m2 s2 c2 w2)).length).1.map (encR encC))], .cells [.lst none 3 ((restE byTicksF (c1.zip w1) (c2.zip w2) (mergedC (.mk n1 m1 s1 c1 w1) (.mk n2 m2 s2 c2 w2)).length).2.map (encR encC))], .cells [.fn (.func 129) [] []], .cells [.int .u64 0, .int .u64 0, .lst0, .lst (some (S.length + 8)) 1 ((acc.map fun e => encC e.1)), .lst (some (S.length + 9)) 5 ((acc.map fun e => encV e.2))], .row 55 1 (acc.length + 1), .row 30 5 (acc.length + 1), .cells (encE encC e).cells, .cells (encV (.mk n3 m3 s3 c3 w3)).cells], S ++ [.cells (encS (.mk k (.mk k1 i1 :: rest))).cells, .cells (encV (.mk n1 m1 s1 c1 w1)).cells, .cells (encV (.mk n2 m2 s2 c2 w2)).cells, .cells [.int .u64 0, .int .u64 0, .lst0, .lst0, .lst0], .cells [.lst none 3 ((restE byTicksF (c1.zip w1) (c2.zip w2) (mergedC (.mk n1 m1 s1 c1 w1) (.mk n2 m2 s2 c2 w2)).length).1.map (encR encC))], .cells [.lst none 3 ((restE byTicksF (c1.zip w1) (c2.zip w2) (mergedC (.mk n1 m1 s1 c1 w1) (.mk n2 m2 s2 c2 w2)).length).2.map (encR encC))], .cells [.fn (.func 129) [] []], .cells [.int .u64 0, .int .u64 0, .lst0, .lst (some (S.length + 8)) 1 (((acc.map fun e => encC e.1) ++ [encC e.1])), .lst (some (S.length + 9)) 5 ((acc.map fun e => encV e.2))], .row 55 1 (acc.length + 1), .row 30 5 (acc.length + 1), .cells (encE encC e).cells, .cells (encV (.mk n3 m3 s3 c3 w3)).cells], S ++ [.cells (encS (.mk k (.mk k1 i1 :: rest))).cells, .cells (encV (.mk n1 m1 s1 c1 w1)).cells, .cells (encV (.mk n2 m2 s2 c2 w2)).cells, .cells [.int .u64 0, .int .u64 0, .lst0, .lst0, .lst0], .cells [.lst none 3 ((restE byTicksF (c1.zip w1) (c2.zip w2) (mergedC (.mk n1 m1 s1 c1 w1) (.mk n2 m2 s2 c2 w2)).length).1.map (encR encC))], .cells [.lst none 3 ((restE byTicksF (c1.zip w1) (c2.zip w2) (mergedC (.mk n1 m1 s1 c1 w1) (.mk n2 m2 s2 c2 w2)).length).2.map (encR encC))], .cells [.fn (.func 129) [] []], .cells [.int .u64 0, .int .u64 0, .lst0, .lst (some (S.length + 8)) 1 (((acc.map fun e => encC e.1) ++ [encC e.1])), .lst (some (S.length + 9)) 5 (((acc.map fun e => encV e.2) ++ [encV (.mk n3 m3 s3 c3 w3)]))], .row 55 1 (acc.length + 1), .row 30 5 (acc.length + 1), .cells (encE encC e).cells, .cells (encV (.mk n3 m3 s3 c3 w3)).cells]] mo (by decide) rfl rfl rfl rfl ?_
    refine dOps_op rfl rfl (.cons (op_fieldAddr_ref rfl rfl fo30_3 ⟨rfl, rfl⟩) (.cons (op_fieldAddr_ref rfl rfl fo30_3 ⟨rfl, rfl⟩) (.cons (op_fieldAddr_ref rfl rfl fo30_3 ⟨rfl, rfl⟩) (.nil)))) <| dO rfl rfl rfl (op_load' rfl rfl rfl ta27 rfl ⟨rfl, rfl⟩) <| dOps_op rfl rfl (.cons (op_fieldAddr_ref rfl rfl fo149_0 ⟨rfl, rfl⟩) (.cons (op_fieldAddr_ref rfl rfl fo149_0 ⟨rfl, rfl⟩) (.cons (op_fieldAddr_ref rfl rfl fo149_0 ⟨rfl, rfl⟩) (.nil)))) <| dOps_op rfl rfl (.cons (op_load' rfl rfl rfl ta55 rfl ⟨rfl, rfl⟩) (.cons (op_load' rfl rfl rfl ta55 rfl ⟨rfl, rfl⟩) (.cons (op_load' rfl rfl rfl ta55 rfl ⟨rfl, rfl⟩) (.nil)))) <| dO rfl rfl rfl (op_buildSlice rfl Tryz.underlying27 el55 rfl rfl (by decide) (by decide) rfl rfl ⟨rfl, rfl⟩) ?_
    refine dOps_eff rfl rfl rfl rfl (op_append' rfl Tryz.underlying27 el55 rfl rfl rfl (by simp) (by simp; omega) (by simp; omega) rfl ⟨rfl, rfl⟩) ?_
    refine dOps_op rfl rfl (.cons (op_fieldAddr_ref rfl rfl fo30_4 ⟨rfl, rfl⟩) (.cons (op_fieldAddr_ref rfl rfl fo30_4 ⟨rfl, rfl⟩) (.cons (op_fieldAddr_ref rfl rfl fo30_4 ⟨rfl, rfl⟩) (.nil)))) <| dOps_op rfl rfl (.cons (op_load' rfl rfl rfl ta28 rfl ⟨rfl, rfl⟩) (.cons (op_load' rfl rfl rfl ta28 rfl ⟨rfl, rfl⟩) (.nil))) <| dOps_op rfl rfl (.cons (op_load' rfl rfl rfl ta30 rfl ⟨rfl, rfl⟩) (.cons (op_load' rfl rfl rfl ta30 rfl ⟨rfl, rfl⟩) (.cons (op_load' rfl rfl rfl ta30 rfl ⟨rfl, rfl⟩) (.cons (op_load' rfl rfl rfl ta30 rfl ⟨rfl, rfl⟩) (.nil))))) <| dOps_op rfl rfl (.cons (op_buildSlice rfl Tryz.underlying28 el30 rfl rfl (by decide) (by decide) rfl rfl ⟨rfl, rfl⟩) (.cons (op_buildSlice rfl Tryz.underlying28 el30 rfl rfl (by decide) (by decide) rfl rfl ⟨rfl, rfl⟩) (.nil))) ?_
    refine dOps_eff rfl rfl rfl rfl (op_append' rfl Tryz.underlying28 el30 rfl rfl rfl (by simp) (by simp; omega) (by simp; omega) rfl ⟨rfl, rfl⟩) ?_
    refine dOps_op rfl rfl (.cons (op_fieldAddr_ref rfl rfl fo30_3 ⟨rfl, rfl⟩) (.cons (op_fieldAddr_ref rfl rfl fo30_3 ⟨rfl, rfl⟩) (.nil))) <| dOps_eff rfl rfl rfl rfl (op_store' rfl rfl rfl rfl sz27 rfl rfl (Nat.le_of_ble_eq_true rfl) rfl ⟨rfl, rfl⟩) <| dO rfl rfl rfl (op_fieldAddr_ref rfl rfl fo30_4 ⟨rfl, rfl⟩) <| dOps_eff rfl rfl rfl rfl (op_store' rfl rfl rfl rfl sz28 rfl rfl (Nat.le_of_ble_eq_true rfl) rfl ⟨rfl, rfl⟩) <| dOps_nil <| qR rfl <| qO rfl <| op_arith rfl rfl rfl rfl <| qM rfl rfl rfl <| qN ?_
    refine ⟨⟨i + 1, acc ++ [(e.1, .mk n3 m3 s3 c3 w3)]⟩, _, by dsimp only; omega, ⟨by dsimp only; omega, by dsimp only; rw [filt_snoc hs, if_pos (by simpa [seenE] using h34)]; exact goE_snoc he hf⟩, by simp only [List.map_append, List.length_append]; rfl, .same (.same (.same (.same (.same (.same (.same (.new (cl_outC (by simp) (by simp)) (.new trivial (.new trivial .nil))))))))), (.old rfl rfl (.old rfl rfl (.old rfl rfl (.old rfl rfl (.old rfl rfl (.old rfl rfl (.nil))))))), (.new' rfl (int_succ hlt hlen) (.int _ _) (.nil))⟩
 ·
  have hge : i = l.length := by simp at h29; omega
  refine mwp_exit <| mwp_seq <| qR rfl <| qL rfl rfl rfl rfl ta30 rfl <| qO rfl <| op_store' rfl rfl rfl rfl sz30 rfl rfl (Nat.le_of_ble_eq_true rfl) rfl <| qA rfl rfl rfl <| qN <| mwp_ret ?_
  exact ret_cell_tmp (.inr rfl) Tryz.results106 rfl rfl ta30 rfl (.agg (.cons (.refl _) (.cons (.refl _) (.cons (.nil 1) (.cons (.trans (.view _ _ _) (.of_eq (by rw [List.map_map]; rfl))) (.cons (.trans (.view _ _ _) (.of_eq (by rw [encVs_eq, List.map_map]; rfl))) .nil)))))) (cl_encV _ (.mk 0 0 [] (acc.map (·.1)) (acc.map (·.2)))) rfl (.refl _) (.iface0) ⟨by rw [show causesF f (.mk n1 m1 s1 c1 w1) (.mk n2 m2 s2 c2 w2) = some _ from by rw [causesF, hl]; rw [hge, List.take_length] at he; rw [he]; rfl]; rfl, rfl⟩
end Go.Proofs.YtnfcnpdpfgcchaaGreat
end
section
set_option linter.unusedVariables false
set_option linter.unusedSimpArgs false
set_option maxRecDepth 20000
set_option maxHeartbeats 400000
namespace Go.Proofs.YtnfcnpdpfgcchaaGreat
open Go Go.MV
theorem fn_own {f : FuncId} {S : MS} (A : MS) : MV.fn (.func f) [] [.ref (S ++ A).length 0, .ref ((S ++ A).length + 1) 0, .ref ((S ++ A).length + 2) 0] = MV.fn (.func f) [] [.ref (S.length + A.length) 0, .ref (S.length + (A.length + 1)) 0, .ref (S.length + (A.length + 2)) 0] := by
 rw [List.length_append]; rfl
theorem get_end {A A' R : MS} {c : MObj} (h : A'.length = A.length) : (A' ++ (R ++ [c]))[(A ++ R).length]? = some c := by
 rw [List.length_append, ← h, getElem?_own]
 exact get_mid (B := [])
theorem set_end {A R : MS} {c d : MObj} : (A ++ (R ++ [c])).set (A ++ R).length d = A ++ (R ++ [d]) := by
 rw [List.length_append, set_own]
 congr 1
 exact set_mid (B := [])
theorem get_rtz {A A' L' : MS} {x y c : MObj} (h : A'.length = A.length) (Z : MS) : (A' ++ (((y :: L') ++ [c]) ++ Z))[(A ++ x :: L').length]? = some c := by
 rw [List.length_append, ← h, getElem?_own]
 exact get_app (get_mid (B := []))
theorem get_rt0 {A A' L' : MS} {x y c : MObj} (h : A'.length = A.length) : (A' ++ ((y :: L') ++ [c]))[(A ++ x :: L').length]? = some c := by
 have := get_rtz (x := x) (y := y) (c := c) (L' := L') h []
 rwa [List.append_nil] at this
section
variable {κ : Type}
def accE (f : Val → Val → Option Val) (l : List (Ent κ)) (j : Nat) : List (κ × Val) := (goE f (l.take j)).getD []
def okE (f : Val → Val → Option Val) (l : List (Ent κ)) (j : Nat) : Bool := ((l[j]?).bind (ofE f)).isSome
theorem acc_step {f : Val → Val → Option Val} {l : List (Ent κ)} {j : Nat} {e : Ent κ} {v : Val} (h : goE f (l.take j) = some (accE f l j)) (he : l[j]? = some e) (hv : ofE f e = some v) : goE f (l.take (j + 1)) = some (accE f l j ++ [(e.1, v)]) := by
 rw [List.take_add_one, he, Option.toList_some]
 exact goE_snoc h hv
theorem acc_next {f : Val → Val → Option Val} {l : List (Ent κ)} {j : Nat} {e : Ent κ} {v : Val} (h : goE f (l.take j) = some (accE f l j)) (he : l[j]? = some e) (hv : ofE f e = some v) : accE f l (j + 1) = accE f l j ++ [(e.1, v)] := by
 rw [accE, acc_step h he hv]; rfl
theorem acc_all {f : Val → Val → Option Val} {l : List (Ent κ)} : ∀ {j : Nat}, j ≤ l.length → (∀ i, i < j → okE f l i = true) → goE f (l.take j) = some (accE f l j)
 | 0, _, _ => by simp [accE, goE]
 | j + 1, hj, h => by
  have ih := acc_all (j := j) (by omega) fun i hi => h i (by omega)
  have hk := h j (by omega)
  obtain ⟨e, he⟩ : ∃ e, l[j]? = some e := ⟨_, List.getElem?_eq_getElem (by omega)⟩
  rw [okE, he] at hk
  obtain ⟨v, hv⟩ := Option.isSome_iff_exists.1 hk
  rw [acc_step ih he hv, acc_next ih he hv]
end
theorem clo_V (n : Nat) (v : Val) : (MObj.cells (encV v).cells).cl n := by
 have h := cl_encV n v
 cases v with
 | mk a b c d e => cases h with
  | agg _ h => exact h
theorem clo_S (n : Nat) (s : Sch) : (MObj.cells (encS s).cells).cl n := by
 have h := cl_encS n s
 cases s with
 | mk a b => cases h with
  | agg _ h => exact h
theorem clo_1 {n : Nat} {x : MV} (h : Cl n x) : (MObj.cells [x]).cl n := fun y hy => by
 rw [List.mem_singleton] at hy; subst hy; exact h
theorem clo_Z (n : Nat) : (MObj.cells [.int .u64 0, .int .u64 0, .lst0, .lst0, .lst0]).cl n := fun y hy => by
 simp only [List.mem_cons, List.not_mem_nil, or_false] at hy
 rcases hy with rfl | rfl | rfl | rfl | rfl
 ·exact .int _ _
 ·exact .int _ _
 ·exact .lst0
 ·exact .lst0
 ·exact .lst0
theorem clo_outX {acc : List (Bs × Val)} {t u n : Nat} (ht : t < n) (hu : u < n) : (MObj.cells [.int .u64 0, .int .u64 0, .lst (some t) 1 (acc.map fun e => encX e.1), .lst0, .lst (some u) 5 (acc.map fun e => encV e.2)]).cl n := by
 intro x hx
 simp only [List.mem_cons, List.not_mem_nil, or_false] at hx
 rcases hx with rfl | rfl | rfl | rfl | rfl
 ·exact .int _ _
 ·exact .int _ _
 ·exact cl_lstT ht (fun e : Bs × Val => cl_encX n e.1) (fun e => .inr rfl)
 ·exact .lst0
 ·exact cl_lstT hu (fun e : Bs × Val => cl_encV n e.2) (fun e => by cases e.2; exact .inl rfl)
theorem one_encEX (e : Ent Bs) : (encE encX e).cells.all MV.one = true := by obtain ⟨k, v, o⟩ := e; cases o <;> rfl
theorem clo_bx (n : Nat) (l : List (REnt Bs)) : (MObj.cells [.lst none 3 (l.map (encR encX))]).cl n := clo_1 (cl_lst (cl_encR (fun n k => cl_encX n k) _) (fun _ => .inl rfl))
theorem okE_some {κ : Type} {f : Val → Val → Option Val} {l : List (Ent κ)} {j : Nat} {e : Ent κ} {v : Val} (h : l[j]? = some e) (hf : ofE f e = some v) : okE f l j = true := by rw [okE, h]; simp [hf]
theorem okE_none {κ : Type} {f : Val → Val → Option Val} {l : List (Ent κ)} {j : Nat} {e : Ent κ} (h : l[j]? = some e) (hf : ofE f e = none) : okE f l j = false := by rw [okE, h]; simp [hf]
theorem bad_none {κ : Type} {f : Val → Val → Option Val} {l : List (Ent κ)} {j : Nat} {e : Ent κ} (h : l[j]? = some e) (hf : okE f l j = false) : goE f l = none := by
 refine goE_bad (List.mem_of_getElem? h) ?_
 rw [okE, h] at hf
 simpa using hf
theorem maps_spec (k k1 : Int) (i1 rest : List Sch) (f : Val → Val → Option Val) (n1 m1 : Int) (s1 : List Bs) (c1 : List (List Tk)) (w1 : List Val) (n2 m2 : Int) (s2 : List Bs) (c2 : List (List Tk)) (w2 : List Val) (hl1 : s1.length = w1.length) (hl2 : s2.length = w2.length) (h1 : s1.length ≤ 40) (h2 : s2.length ≤ 40) (hb : ∀ x ∈ w1, ∀ y ∈ w2, ∀ S : MS, MCalls Tryz.prog 83 [encS (.mk k1 i1), encV x, encV y] S fun v σ' => v = encO (f x y) ∧ σ' = S) (S : MS) : MCalls Tryz.prog 102 [encS (.mk k (.mk k1 i1 :: rest)), encV (.mk n1 m1 s1 c1 w1), encV (.mk n2 m2 s2 c2 w2)] S fun v σ' => v = encO (mapsF f (.mk n1 m1 s1 c1 w1) (.mk n2 m2 s2 c2 w2)) ∧ σ' = S := by
 refine mcalls_body Tryz.func102 rfl Tryz.ntmps102 (Nat.le_of_ble_eq_true rfl) ?_
 generalize hl : mergedX (.mk n1 m1 s1 c1 w1) (.mk n2 m2 s2 c2 w2) = l
 have hll : l.length ≤ 80 := by rw [← hl]; have := mergeE_len cmpX (s1.zip w1) (s2.zip w2); simp only [mergedX, entX, Val.sv, Val.vv, List.length_zip] at *; omega
 have hmem : ∀ e ∈ l, ∀ y, e.2.2 = some y → e.2.1 ∈ w1 ∧ y ∈ w2 := fun e h => by
  obtain ⟨p, q⟩ := mergeE_mem _ _ _ e (by rw [← hl] at h; exact h)
  intro y hy
  obtain ⟨q1, k, q2⟩ := q y hy
  exact ⟨zip_mem2 q1, zip_mem2 q2⟩
 refine mwp_seq <| qR rfl <| qB rfl rfl rfl rfl rfl <| qB rfl rfl rfl rfl rfl <| qB rfl rfl rfl rfl rfl <| qO rfl <| op_alloc' rfl zm30 rfl rfl <| qO rfl <| op_alloc' rfl zm34 rfl rfl <| qN <| mwp_seq <| qR rfl <| qO rfl <| op_alloc' rfl zm30 rfl rfl <| qN <| mwp_seq <| mwp_seq ?_
 refine mwp_draw [10] [_, S ++ [.cells (encS (.mk k (.mk k1 i1 :: rest))).cells, .cells (encV (.mk n1 m1 s1 c1 w1)).cells, .cells (encV (.mk n2 m2 s2 c2 w2)).cells, .cells [.int .u64 0, .int .u64 0, .lst0, .lst0, .lst0], .cells [.iface0], .cells [.int .u64 0, .int .u64 0, .lst0, .lst0, .lst0], .cells [.lst none 3 ((s1.zip w1).map (encR encX))], .cells [.lst none 3 ((s2.zip w2).map (encR encX))], .cells [.fn (.func 124) [] []]]] mo (by decide) rfl rfl rfl rfl ?_
 refine dOps_op rfl rfl (.cons (op_fieldAddr_ref rfl rfl fo30_2 ⟨rfl, rfl⟩) (.cons (op_fieldAddr_ref rfl rfl fo30_2 ⟨rfl, rfl⟩) (.nil))) <| dOps_op rfl rfl (.cons (op_load' rfl rfl rfl ta26 rfl ⟨rfl, rfl⟩) (.cons (op_load' rfl rfl rfl ta26 rfl ⟨rfl, rfl⟩) (.nil))) <| dOps_op rfl rfl (.cons (op_fieldAddr_ref rfl rfl fo30_4 ⟨rfl, rfl⟩) (.cons (op_fieldAddr_ref rfl rfl fo30_4 ⟨rfl, rfl⟩) (.nil))) <| dOps_op rfl rfl (.cons (op_load' rfl rfl rfl ta28 rfl ⟨rfl, rfl⟩) (.cons (op_load' rfl rfl rfl ta28 rfl ⟨rfl, rfl⟩) (.nil))) <| dOps_op rfl rfl (.cons (op_call rfl rfl rfl co123 (xrow_spec s1 w1 hl1 (by omega) _)) .nil) ?_
 refine dOps_op rfl rfl (.cons (op_fieldAddr_ref rfl rfl fo30_2 ⟨rfl, rfl⟩) (.cons (op_fieldAddr_ref rfl rfl fo30_2 ⟨rfl, rfl⟩) (.nil))) <| dOps_op rfl rfl (.cons (op_load' rfl rfl rfl ta26 rfl ⟨rfl, rfl⟩) (.cons (op_load' rfl rfl rfl ta26 rfl ⟨rfl, rfl⟩) (.nil))) <| dOps_op rfl rfl (.cons (op_fieldAddr_ref rfl rfl fo30_4 ⟨rfl, rfl⟩) (.cons (op_fieldAddr_ref rfl rfl fo30_4 ⟨rfl, rfl⟩) (.nil))) <| dOps_op rfl rfl (.cons (op_load' rfl rfl rfl ta28 rfl ⟨rfl, rfl⟩) (.cons (op_load' rfl rfl rfl ta28 rfl ⟨rfl, rfl⟩) (.nil))) <| dOps_op rfl rfl (.cons (op_call rfl rfl rfl co123 (xrow_spec s2 w2 hl2 (by omega) _)) .nil) ?_
 refine dOps_eff rfl rfl rfl rfl (op_call rfl rfl rfl co122 ((xmerged_spec (s1.zip w1) (s2.zip w2) _ _).mono fun _ _ h => ⟨h.1.trans (fn_own [_, _, _, _, _, _]), h.2.trans (List.append_assoc ..)⟩)) ?_
 refine dOps_nil <| mwp_block <| mwp_cellrowAt 5 2 9 1 rfl rfl (Nat.le_refl _) rfl rfl <| mwp_cellrowAt 5 4 30 5 rfl rfl (Nat.le_refl _) rfl rfl ?_
 refine mwp_rangeC (L0 := _) .ret (.inl rfl) (okE f l) (fun j => ([.cells (encS (.mk k (.mk k1 i1 :: rest))).cells, .cells (encV (.mk n1 m1 s1 c1 w1)).cells, .cells (encV (.mk n2 m2 s2 c2 w2)).cells, .cells [.int .u64 0, .int .u64 0, .lst0, .lst0, .lst0], .cells [.iface0], .cells [.int .u64 0, .int .u64 0, .lst (some (S.length + 9)) 1 (((accE f l j).map fun e => encX e.1)), .lst0, .lst (some (S.length + 10)) 5 (((accE f l j).map fun e => encV e.2))], .cells [.lst none 3 ((restE cmpX (s1.zip w1) (s2.zip w2) j).1.map (encR encX))], .cells [.lst none 3 ((restE cmpX (s1.zip w1) (s2.zip w2) j).2.map (encR encX))], .cells [.fn (.func 124) [] []], .row 9 1 (accE f l j).length, .row 30 5 (accE f l j).length] : MS)) (fun j => ([.cells (encS (.mk k (.mk k1 i1 :: rest))).cells, .cells (encV (.mk n1 m1 s1 c1 w1)).cells, .cells (encV (.mk n2 m2 s2 c2 w2)).cells, .cells [.int .u64 0, .int .u64 0, .lst0, .lst0, .lst0], .cells [.iface0], .cells [.int .u64 0, .int .u64 0, .lst (some (S.length + 9)) 1 (((accE f l j).map fun e => encX e.1)), .lst0, .lst (some (S.length + 10)) 5 (((accE f l j).map fun e => encV e.2))], .cells [.lst none 3 ((restE cmpX (s1.zip w1) (s2.zip w2) (j + 1)).1.map (encR encX))], .cells [.lst none 3 ((restE cmpX (s1.zip w1) (s2.zip w2) (j + 1)).2.map (encR encX))], .cells [.fn (.func 124) [] []], .row 9 1 (accE f l j).length, .row 30 5 (accE f l j).length] : MS)) (fun j => ([.cells (encS (.mk k (.mk k1 i1 :: rest))).cells, .cells (encV (.mk n1 m1 s1 c1 w1)).cells, .cells (encV (.mk n2 m2 s2 c2 w2)).cells, .cells [.int .u64 0, .int .u64 0, .lst0, .lst0, .lst0], .cells [encErr 13], .cells [.int .u64 0, .int .u64 0, .lst (some (S.length + 9)) 1 (((accE f l j).map fun e => encX e.1)), .lst0, .lst (some (S.length + 10)) 5 (((accE f l j).map fun e => encV e.2))], .cells [.lst none 3 ((restE cmpX (s1.zip w1) (s2.zip w2) (j + 1)).1.map (encR encX))], .cells [.lst none 3 ((restE cmpX (s1.zip w1) (s2.zip w2) (j + 1)).2.map (encR encX))], .cells [.fn (.func 124) [] []], .row 9 1 (accE f l j).length, .row 30 5 (accE f l j).length] : MS)) (fun j => rfl) (fun j => rfl) (fun j => rfl) rfl
  (fun j o ho n hn => by
   simp only [List.mem_cons, List.not_mem_nil, or_false] at ho
   rcases ho with rfl | rfl | rfl | rfl | rfl | rfl | rfl | rfl | rfl | rfl | rfl
   ·exact clo_S _ _
   ·exact clo_V _ _
   ·exact clo_V _ _
   ·exact clo_Z _
   ·exact clo_1 .iface0
   ·exact clo_outX (by simp only [List.length_append, List.length_cons, List.length_nil] at hn; omega) (by simp only [List.length_append, List.length_cons, List.length_nil] at hn; omega)
   ·exact clo_bx _ _
   ·exact clo_bx _ _
   ·exact clo_1 (.fn _ _ _ (fun _ h => by cases h) (fun _ h => by cases h))
   ·exact trivial
   ·exact trivial)
  (fun j o ho n hn => by
   simp only [List.mem_cons, List.not_mem_nil, or_false] at ho
   rcases ho with rfl | rfl | rfl | rfl | rfl | rfl | rfl | rfl | rfl | rfl | rfl
   ·exact clo_S _ _
   ·exact clo_V _ _
   ·exact clo_V _ _
   ·exact clo_Z _
   ·exact clo_1 .iface0
   ·exact clo_outX (by simp only [List.length_append, List.length_cons, List.length_nil] at hn; omega) (by simp only [List.length_append, List.length_cons, List.length_nil] at hn; omega)
   ·exact clo_bx _ _
   ·exact clo_bx _ _
   ·exact clo_1 (.fn _ _ _ (fun _ h => by cases h) (fun _ h => by cases h))
   ·exact trivial
   ·exact trivial)
  (fun j o ho n hn => by
   simp only [List.mem_cons, List.not_mem_nil, or_false] at ho
   rcases ho with rfl | rfl | rfl | rfl | rfl | rfl | rfl | rfl | rfl | rfl | rfl
   ·exact clo_S _ _
   ·exact clo_V _ _
   ·exact clo_V _ _
   ·exact clo_Z _
   ·exact clo_1 (.iface _ _ (.int _ _))
   ·exact clo_outX (by simp only [List.length_append, List.length_cons, List.length_nil] at hn; omega) (by simp only [List.length_append, List.length_cons, List.length_nil] at hn; omega)
   ·exact clo_bx _ _
   ·exact clo_bx _ _
   ·exact clo_1 (.fn _ _ _ (fun _ h => by cases h) (fun _ h => by cases h))
   ·exact trivial
   ·exact trivial) rfl co140 rfl (by simp) (xmerged_iter cmpX _ co124 (fun a b S => strCmp_spec a b S) (s1.zip w1) (s2.zip w2) (S.length + 6) (S.length + 7) (S.length + 8) (S.length + 12) (by omega)) (fun j => by simp) (fun j hj => ⟨get_mid_ (k := 6) rfl, get_mid_ (k := 7) rfl, get_mid_ (k := 8) rfl, ?_⟩) (fun j s q => by simp) rfl (fun y hy => by obtain ⟨i, _, rfl⟩ := List.mem_map.1 hy; rfl) ?_ ?_ ?_
 ·rw [set_mid_ (k := 6) rfl, set_mid_ (k := 7) rfl]; rfl
 ·
  intro j y hy hbef L'
  rw [List.getElem?_map] at hy
  obtain ⟨e, hs, rfl⟩ := Option.map_eq_some_iff.1 hy
  replace hs : l[j]? = some e := by rw [← hl]; exact hs
  have hjl : j < l.length := (List.getElem?_eq_some_iff.1 hs).1
  have hacc := acc_all (f := f) (by omega) hbef
  have hal : (accE f l j).length ≤ 1000 := by have h1 := goE_len hacc; rw [List.length_take] at h1; omega
  refine qR rfl <| qO rfl <| op_alloc rfl zm144 <| qO rfl <| op_store_last rfl rfl rfl sz144 rfl (one_encEX e) (Nat.le_of_ble_eq_true rfl) <| qN ?_
  refine ⟨rfl, [_], rfl, ?_⟩
  rw [List.append_assoc (S ++ _)]
  refine mwp_abs fun R hR => ?_
  have hE0 : ∀ (x : MObj) (A' : MS), A'.length = S.length + 11 → (A' ++ R)[((S ++ ([.cells (encS (.mk k (.mk k1 i1 :: rest))).cells, .cells (encV (.mk n1 m1 s1 c1 w1)).cells, .cells (encV (.mk n2 m2 s2 c2 w2)).cells, .cells [.int .u64 0, .int .u64 0, .lst0, .lst0, .lst0], .cells [.iface0], .cells [.int .u64 0, .int .u64 0, .lst (some (S.length + 9)) 1 (((accE f l j).map fun e => encX e.1)), .lst0, .lst (some (S.length + 10)) 5 (((accE f l j).map fun e => encV e.2))], .cells [.lst none 3 ((restE cmpX (s1.zip w1) (s2.zip w2) (j + 1)).1.map (encR encX))], .cells [.lst none 3 ((restE cmpX (s1.zip w1) (s2.zip w2) (j + 1)).2.map (encR encX))], .cells [.fn (.func 124) [] []], .row 9 1 (accE f l j).length, .row 30 5 (accE f l j).length] : MS)) ++ x :: L').length]? = some (.cells (encE encX e).cells) := fun x A' hA => by rw [hR]; exact get_rt0 (by simpa using hA)
  have hE : ∀ (x : MObj) (A' Z : MS), A'.length = S.length + 11 → (A' ++ (R ++ Z))[((S ++ ([.cells (encS (.mk k (.mk k1 i1 :: rest))).cells, .cells (encV (.mk n1 m1 s1 c1 w1)).cells, .cells (encV (.mk n2 m2 s2 c2 w2)).cells, .cells [.int .u64 0, .int .u64 0, .lst0, .lst0, .lst0], .cells [.iface0], .cells [.int .u64 0, .int .u64 0, .lst (some (S.length + 9)) 1 (((accE f l j).map fun e => encX e.1)), .lst0, .lst (some (S.length + 10)) 5 (((accE f l j).map fun e => encV e.2))], .cells [.lst none 3 ((restE cmpX (s1.zip w1) (s2.zip w2) (j + 1)).1.map (encR encX))], .cells [.lst none 3 ((restE cmpX (s1.zip w1) (s2.zip w2) (j + 1)).2.map (encR encX))], .cells [.fn (.func 124) [] []], .row 9 1 (accE f l j).length, .row 30 5 (accE f l j).length] : MS)) ++ x :: L').length]? = some (.cells (encE encX e).cells) := fun x A' Z hA => by rw [hR]; exact get_rtz (by simpa using hA) Z
  refine mwp_block <| mwp_seq ?_
  have hof := fun S => xof_spec k1 i1 f e (fun y hy S => hb _ (hmem e (List.mem_of_getElem? hs) y hy).1 y (hmem e (List.mem_of_getElem? hs) y hy).2 S) S
  rcases hf : ofE f e with _ | ⟨⟨n3, m3, s3, c3, w3⟩⟩ <;> rw [hf] at hof
  ·
   refine mwp_draw [9, 10] [_, (S ++ [.cells (encS (.mk k (.mk k1 i1 :: rest))).cells, .cells (encV (.mk n1 m1 s1 c1 w1)).cells, .cells (encV (.mk n2 m2 s2 c2 w2)).cells, .cells [.int .u64 0, .int .u64 0, .lst0, .lst0, .lst0], .cells [.iface0], .cells [.int .u64 0, .int .u64 0, .lst (some (S.length + 9)) 1 (((accE f l j).map fun e => encX e.1)), .lst0, .lst (some (S.length + 10)) 5 (((accE f l j).map fun e => encV e.2))], .cells [.lst none 3 ((restE cmpX (s1.zip w1) (s2.zip w2) (j + 1)).1.map (encR encX))], .cells [.lst none 3 ((restE cmpX (s1.zip w1) (s2.zip w2) (j + 1)).2.map (encR encX))], .cells [.fn (.func 124) [] []], .row 9 1 (accE f l j).length, .row 30 5 (accE f l j).length]) ++ (R ++ [.cells [.int .u64 0, .int .u64 0, .lst0, .lst0, .lst0]]), (S ++ [.cells (encS (.mk k (.mk k1 i1 :: rest))).cells, .cells (encV (.mk n1 m1 s1 c1 w1)).cells, .cells (encV (.mk n2 m2 s2 c2 w2)).cells, .cells [.int .u64 0, .int .u64 0, .lst0, .lst0, .lst0], .cells [.iface0], .cells [.int .u64 0, .int .u64 0, .lst (some (S.length + 9)) 1 (((accE f l j).map fun e => encX e.1)), .lst0, .lst (some (S.length + 10)) 5 (((accE f l j).map fun e => encV e.2))], .cells [.lst none 3 ((restE cmpX (s1.zip w1) (s2.zip w2) (j + 1)).1.map (encR encX))], .cells [.lst none 3 ((restE cmpX (s1.zip w1) (s2.zip w2) (j + 1)).2.map (encR encX))], .cells [.fn (.func 124) [] []], .row 9 1 (accE f l j).length, .row 30 5 (accE f l j).length]) ++ (R ++ [.cells (encV noV).cells])] mo (by decide) rfl rfl rfl rfl ?_
   refine dOps_op rfl rfl (.cons (op_fieldAddr_ref rfl rfl fo24_1 ⟨rfl, rfl⟩) (.cons (op_fieldAddr_ref rfl rfl fo24_1 ⟨rfl, rfl⟩) (.nil))) <| dOps_op rfl rfl (.cons (op_load_mid rfl rfl rfl ta22 rfl ⟨rfl, rfl⟩) (.cons (op_load_mid rfl rfl rfl ta22 rfl ⟨rfl, rfl⟩) (.nil))) <| dOps_op rfl rfl (.cons (op_indexAddr rfl Tryz.underlying22 sz24 (by decide) rfl rfl rfl (show _ = some (encS (.mk k1 i1)) from rfl) ⟨rfl, rfl⟩) (.cons (op_indexAddr rfl Tryz.underlying22 sz24 (by decide) rfl rfl rfl (show _ = some (encS (.mk k1 i1)) from rfl) ⟨rfl, rfl⟩) (.nil))) ?_
   refine dOps_op rfl rfl (.cons (op_load_sptr rfl rfl ta24 rfl ⟨rfl, rfl⟩) (.cons (op_load_sptr rfl rfl ta24 rfl ⟨rfl, rfl⟩) (.nil))) <| dOps_op rfl rfl (.cons (op_load_ref rfl rfl (hE0 _ _ (by simp)) ta144 rfl ⟨rfl, rfl⟩) (.cons (op_load_ref rfl rfl (hE _ _ _ (by simp)) ta144 rfl ⟨rfl, rfl⟩) (.nil))) ?_
   refine dOps_op rfl rfl (.cons (op_call rfl rfl rfl co125 (hof _)) (.cons (op_call rfl rfl rfl co125 (hof _)) (.nil))) <| dOps_op rfl rfl (.cons (op_move rfl rfl ⟨rfl, rfl⟩) (.cons (op_move rfl rfl ⟨rfl, rfl⟩) (.nil))) <| dOps_op rfl rfl (.cons (op_extract rfl rfl rfl ⟨rfl, rfl⟩) (.cons (op_extract rfl rfl rfl ⟨rfl, rfl⟩) (.nil))) <| dOps_op rfl rfl (.cons (op_extract rfl rfl rfl ⟨rfl, rfl⟩) (.cons (op_extract rfl rfl rfl ⟨rfl, rfl⟩) (.cons (op_extract rfl rfl rfl ⟨rfl, rfl⟩) (.nil)))) <| dOps_eff rfl rfl rfl rfl (op_alloc rfl zm30 ⟨rfl, List.append_assoc ..⟩) <| dOps_eff rfl rfl rfl rfl (op_store rfl rfl rfl (get_end rfl) sz30 rfl rfl (Nat.le_of_ble_eq_true rfl) ⟨rfl, set_end⟩) <| dO rfl rfl rfl (op_assign rfl rfl ⟨rfl, rfl⟩) <| dOps_nil <| mwp_seq <| mwp_seq <| qR rfl <| qM rfl rfl rfl <| qO rfl <| op_ifnil rfl Tryz.underlying34 rfl rfl (.inr ⟨rfl, rfl⟩) <| qN <| mwp_cond_t rfl (rfl) <| mwp_seq <| qR rfl <| qO rfl <| op_build rfl Tryz.underlying30 zm30 .nil (by kernel_rfl) ?_
   refine qM rfl rfl rfl <| qO rfl <| op_store_mid rfl rfl rfl rfl sz30 rfl rfl (Nat.le_of_ble_eq_true rfl) rfl <| qO rfl <| op_store_mid rfl rfl rfl rfl sz34 rfl rfl (Nat.le_of_ble_eq_true rfl) rfl <| qN <| mwp_ret ?_
   exact .inr ⟨okE_none hs hf, rfl, [_, _], by rw [hR]; simp only [List.append_assoc, List.cons_append, List.nil_append]; rfl⟩
  ·
   refine mwp_draw [9, 10] [_, (S ++ [.cells (encS (.mk k (.mk k1 i1 :: rest))).cells, .cells (encV (.mk n1 m1 s1 c1 w1)).cells, .cells (encV (.mk n2 m2 s2 c2 w2)).cells, .cells [.int .u64 0, .int .u64 0, .lst0, .lst0, .lst0], .cells [.iface0], .cells [.int .u64 0, .int .u64 0, .lst (some (S.length + 9)) 1 (((accE f l j).map fun e => encX e.1)), .lst0, .lst (some (S.length + 10)) 5 (((accE f l j).map fun e => encV e.2))], .cells [.lst none 3 ((restE cmpX (s1.zip w1) (s2.zip w2) (j + 1)).1.map (encR encX))], .cells [.lst none 3 ((restE cmpX (s1.zip w1) (s2.zip w2) (j + 1)).2.map (encR encX))], .cells [.fn (.func 124) [] []], .row 9 1 (accE f l j).length, .row 30 5 (accE f l j).length]) ++ (R ++ [.cells [.int .u64 0, .int .u64 0, .lst0, .lst0, .lst0]]), (S ++ [.cells (encS (.mk k (.mk k1 i1 :: rest))).cells, .cells (encV (.mk n1 m1 s1 c1 w1)).cells, .cells (encV (.mk n2 m2 s2 c2 w2)).cells, .cells [.int .u64 0, .int .u64 0, .lst0, .lst0, .lst0], .cells [.iface0], .cells [.int .u64 0, .int .u64 0, .lst (some (S.length + 9)) 1 (((accE f l j).map fun e => encX e.1)), .lst0, .lst (some (S.length + 10)) 5 (((accE f l j).map fun e => encV e.2))], .cells [.lst none 3 ((restE cmpX (s1.zip w1) (s2.zip w2) (j + 1)).1.map (encR encX))], .cells [.lst none 3 ((restE cmpX (s1.zip w1) (s2.zip w2) (j + 1)).2.map (encR encX))], .cells [.fn (.func 124) [] []], .row 9 1 (accE f l j).length, .row 30 5 (accE f l j).length]) ++ (R ++ [.cells (encV (.mk n3 m3 s3 c3 w3)).cells])] mo (by decide) rfl rfl rfl rfl ?_
   refine dOps_op rfl rfl (.cons (op_fieldAddr_ref rfl rfl fo24_1 ⟨rfl, rfl⟩) (.cons (op_fieldAddr_ref rfl rfl fo24_1 ⟨rfl, rfl⟩) (.nil))) <| dOps_op rfl rfl (.cons (op_load_mid rfl rfl rfl ta22 rfl ⟨rfl, rfl⟩) (.cons (op_load_mid rfl rfl rfl ta22 rfl ⟨rfl, rfl⟩) (.nil))) <| dOps_op rfl rfl (.cons (op_indexAddr rfl Tryz.underlying22 sz24 (by decide) rfl rfl rfl (show _ = some (encS (.mk k1 i1)) from rfl) ⟨rfl, rfl⟩) (.cons (op_indexAddr rfl Tryz.underlying22 sz24 (by decide) rfl rfl rfl (show _ = some (encS (.mk k1 i1)) from rfl) ⟨rfl, rfl⟩) (.nil))) ?_
   refine dOps_op rfl rfl (.cons (op_load_sptr rfl rfl ta24 rfl ⟨rfl, rfl⟩) (.cons (op_load_sptr rfl rfl ta24 rfl ⟨rfl, rfl⟩) (.nil))) <| dOps_op rfl rfl (.cons (op_load_ref rfl rfl (hE0 _ _ (by simp)) ta144 rfl ⟨rfl, rfl⟩) (.cons (op_load_ref rfl rfl (hE _ _ _ (by simp)) ta144 rfl ⟨rfl, rfl⟩) (.nil))) ?_
   refine dOps_op rfl rfl (.cons (op_call rfl rfl rfl co125 (hof _)) (.cons (op_call rfl rfl rfl co125 (hof _)) (.nil))) <| dOps_op rfl rfl (.cons (op_move rfl rfl ⟨rfl, rfl⟩) (.cons (op_move rfl rfl ⟨rfl, rfl⟩) (.nil))) <| dOps_op rfl rfl (.cons (op_extract rfl rfl rfl ⟨rfl, rfl⟩) (.cons (op_extract rfl rfl rfl ⟨rfl, rfl⟩) (.nil))) <| dOps_op rfl rfl (.cons (op_extract rfl rfl rfl ⟨rfl, rfl⟩) (.cons (op_extract rfl rfl rfl ⟨rfl, rfl⟩) (.cons (op_extract rfl rfl rfl ⟨rfl, rfl⟩) (.nil)))) <| dOps_eff rfl rfl rfl rfl (op_alloc rfl zm30 ⟨rfl, List.append_assoc ..⟩) <| dOps_eff rfl rfl rfl rfl (op_store rfl rfl rfl (get_end rfl) sz30 rfl rfl (Nat.le_of_ble_eq_true rfl) ⟨rfl, set_end⟩) <| dO rfl rfl rfl (op_assign rfl rfl ⟨rfl, rfl⟩) <| dOps_nil <| mwp_seq <| mwp_seq <| qR rfl <| qM rfl rfl rfl <| qO rfl <| op_if0 rfl Tryz.underlying34 rfl rfl (.inr ⟨rfl, rfl⟩) <| qN <| mwp_cond_f rfl (rfl) <| mwp_skip ?_
   refine mwp_draw [5, 10, 12, 14] [_, (S ++ [.cells (encS (.mk k (.mk k1 i1 :: rest))).cells, .cells (encV (.mk n1 m1 s1 c1 w1)).cells, .cells (encV (.mk n2 m2 s2 c2 w2)).cells, .cells [.int .u64 0, .int .u64 0, .lst0, .lst0, .lst0], .cells [.iface0], .cells [.int .u64 0, .int .u64 0, .lst (some (S.length + 9)) 1 (((accE f l j).map fun e => encX e.1)), .lst0, .lst (some (S.length + 10)) 5 (((accE f l j).map fun e => encV e.2))], .cells [.lst none 3 ((restE cmpX (s1.zip w1) (s2.zip w2) (j + 1)).1.map (encR encX))], .cells [.lst none 3 ((restE cmpX (s1.zip w1) (s2.zip w2) (j + 1)).2.map (encR encX))], .cells [.fn (.func 124) [] []], .row 9 1 ((accE f l j).length + 1), .row 30 5 (accE f l j).length]) ++ (R ++ [.cells (encV (.mk n3 m3 s3 c3 w3)).cells]), (S ++ [.cells (encS (.mk k (.mk k1 i1 :: rest))).cells, .cells (encV (.mk n1 m1 s1 c1 w1)).cells, .cells (encV (.mk n2 m2 s2 c2 w2)).cells, .cells [.int .u64 0, .int .u64 0, .lst0, .lst0, .lst0], .cells [.iface0], .cells [.int .u64 0, .int .u64 0, .lst (some (S.length + 9)) 1 (((accE f l j).map fun e => encX e.1)), .lst0, .lst (some (S.length + 10)) 5 (((accE f l j).map fun e => encV e.2))], .cells [.lst none 3 ((restE cmpX (s1.zip w1) (s2.zip w2) (j + 1)).1.map (encR encX))], .cells [.lst none 3 ((restE cmpX (s1.zip w1) (s2.zip w2) (j + 1)).2.map (encR encX))], .cells [.fn (.func 124) [] []], .row 9 1 ((accE f l j).length + 1), .row 30 5 ((accE f l j).length + 1)]) ++ (R ++ [.cells (encV (.mk n3 m3 s3 c3 w3)).cells]), (S ++ [.cells (encS (.mk k (.mk k1 i1 :: rest))).cells, .cells (encV (.mk n1 m1 s1 c1 w1)).cells, .cells (encV (.mk n2 m2 s2 c2 w2)).cells, .cells [.int .u64 0, .int .u64 0, .lst0, .lst0, .lst0], .cells [.iface0], .cells [.int .u64 0, .int .u64 0, .lst (some (S.length + 9)) 1 ((((accE f l j).map fun e => encX e.1) ++ [encX e.1])), .lst0, .lst (some (S.length + 10)) 5 (((accE f l j).map fun e => encV e.2))], .cells [.lst none 3 ((restE cmpX (s1.zip w1) (s2.zip w2) (j + 1)).1.map (encR encX))], .cells [.lst none 3 ((restE cmpX (s1.zip w1) (s2.zip w2) (j + 1)).2.map (encR encX))], .cells [.fn (.func 124) [] []], .row 9 1 ((accE f l j).length + 1), .row 30 5 ((accE f l j).length + 1)]) ++ (R ++ [.cells (encV (.mk n3 m3 s3 c3 w3)).cells]), (S ++ [.cells (encS (.mk k (.mk k1 i1 :: rest))).cells, .cells (encV (.mk n1 m1 s1 c1 w1)).cells, .cells (encV (.mk n2 m2 s2 c2 w2)).cells, .cells [.int .u64 0, .int .u64 0, .lst0, .lst0, .lst0], .cells [.iface0], .cells [.int .u64 0, .int .u64 0, .lst (some (S.length + 9)) 1 ((((accE f l j).map fun e => encX e.1) ++ [encX e.1])), .lst0, .lst (some (S.length + 10)) 5 ((((accE f l j).map fun e => encV e.2) ++ [encV (.mk n3 m3 s3 c3 w3)]))], .cells [.lst none 3 ((restE cmpX (s1.zip w1) (s2.zip w2) (j + 1)).1.map (encR encX))], .cells [.lst none 3 ((restE cmpX (s1.zip w1) (s2.zip w2) (j + 1)).2.map (encR encX))], .cells [.fn (.func 124) [] []], .row 9 1 ((accE f l j).length + 1), .row 30 5 ((accE f l j).length + 1)]) ++ (R ++ [.cells (encV (.mk n3 m3 s3 c3 w3)).cells])] mo (by decide) rfl rfl rfl rfl ?_
   refine dOps_op rfl rfl (.cons (op_fieldAddr_ref rfl rfl fo30_2 ⟨rfl, rfl⟩) (.cons (op_fieldAddr_ref rfl rfl fo30_2 ⟨rfl, rfl⟩) (.cons (op_fieldAddr_ref rfl rfl fo30_2 ⟨rfl, rfl⟩) (.nil)))) <| dO rfl rfl rfl (op_load_mid rfl rfl rfl ta26 rfl ⟨rfl, rfl⟩) <| dOps_op rfl rfl (.cons (op_fieldAddr_ref rfl rfl fo144_0 ⟨rfl, rfl⟩) (.cons (op_fieldAddr_ref rfl rfl fo144_0 ⟨rfl, rfl⟩) (.cons (op_fieldAddr_ref rfl rfl fo144_0 ⟨rfl, rfl⟩) (.nil)))) <| dOps_op rfl rfl (.cons (op_load_ref rfl rfl (hE _ _ _ (by simp)) ta9 rfl ⟨rfl, rfl⟩) (.cons (op_load_ref rfl rfl (hE _ _ _ (by simp)) ta9 rfl ⟨rfl, rfl⟩) (.cons (op_load_ref rfl rfl (hE _ _ _ (by simp)) ta9 rfl ⟨rfl, rfl⟩) (.nil)))) ?_
   refine dO rfl rfl rfl (op_buildSlice rfl Tryz.underlying26 el9 rfl rfl (by decide) (by decide) rfl rfl ⟨rfl, rfl⟩) ?_
   refine dOps_eff rfl rfl rfl rfl (op_append_mid rfl Tryz.underlying26 el9 rfl rfl rfl (by simp) (by simp; omega) (by simp; omega) rfl ⟨rfl, rfl⟩) ?_
   refine dOps_op rfl rfl (.cons (op_fieldAddr_ref rfl rfl fo30_4 ⟨rfl, rfl⟩) (.cons (op_fieldAddr_ref rfl rfl fo30_4 ⟨rfl, rfl⟩) (.cons (op_fieldAddr_ref rfl rfl fo30_4 ⟨rfl, rfl⟩) (.nil)))) <| dOps_op rfl rfl (.cons (op_load_mid rfl rfl rfl ta28 rfl ⟨rfl, rfl⟩) (.cons (op_load_mid rfl rfl rfl ta28 rfl ⟨rfl, rfl⟩) (.nil))) <| dOps_op rfl rfl (.cons (op_load_ref rfl rfl (get_end (by simp)) ta30 rfl ⟨rfl, rfl⟩) (.cons (op_load_ref rfl rfl (get_end (by simp)) ta30 rfl ⟨rfl, rfl⟩) (.cons (op_load_ref rfl rfl (get_end (by simp)) ta30 rfl ⟨rfl, rfl⟩) (.cons (op_load_ref rfl rfl (get_end (by simp)) ta30 rfl ⟨rfl, rfl⟩) (.nil))))) ?_
   refine dOps_op rfl rfl (.cons (op_buildSlice rfl Tryz.underlying28 el30 rfl rfl (by decide) (by decide) rfl rfl ⟨rfl, rfl⟩) (.cons (op_buildSlice rfl Tryz.underlying28 el30 rfl rfl (by decide) (by decide) rfl rfl ⟨rfl, rfl⟩) (.nil))) ?_
   refine dOps_eff rfl rfl rfl rfl (op_append_mid rfl Tryz.underlying28 el30 rfl rfl rfl (by simp) (by simp; omega) (by simp; omega) rfl ⟨rfl, rfl⟩) ?_
   refine dOps_op rfl rfl (.cons (op_fieldAddr_ref rfl rfl fo30_2 ⟨rfl, rfl⟩) (.cons (op_fieldAddr_ref rfl rfl fo30_2 ⟨rfl, rfl⟩) (.nil))) <| dOps_eff rfl rfl rfl rfl (op_store_mid rfl rfl rfl rfl sz26 rfl rfl (Nat.le_of_ble_eq_true rfl) rfl ⟨rfl, rfl⟩) <| dO rfl rfl rfl (op_fieldAddr_ref rfl rfl fo30_4 ⟨rfl, rfl⟩) <| dOps_eff rfl rfl rfl rfl (op_store_mid rfl rfl rfl rfl sz28 rfl rfl (Nat.le_of_ble_eq_true rfl) rfl ⟨rfl, rfl⟩) <| dOps_nil ?_
   exact .inl ⟨okE_some hs hf, rfl, [_, _], by rw [hR, acc_next hacc hs hf, List.map_append, List.map_append, len_snoc (l := accE f l j)]; simp only [List.append_assoc, List.cons_append, List.nil_append]; rfl⟩
 ·
  intro hall
  rw [List.length_map, show (mergeE cmpX (s1.zip w1) (s2.zip w2)).length = l.length from congrArg List.length hl]
  replace hall := acc_all (f := f) (j := l.length) (Nat.le_refl _) (fun i hi => hall i (by rw [List.length_map]; rw [← hl] at hi; exact hi))
  rw [List.take_length] at hall
  rw [List.append_assoc S]
  refine mwp_seq <| qR rfl <| qL rfl rfl rfl rfl ta30 rfl <| qO rfl <| op_store' rfl rfl rfl rfl sz30 rfl rfl (Nat.le_of_ble_eq_true rfl) rfl <| qO rfl <| op_store' rfl rfl rfl rfl sz34 rfl rfl (Nat.le_of_ble_eq_true rfl) rfl <| qN <| mwp_ret ?_
  exact ret_cell_cell (.inr rfl) Tryz.results102 rfl rfl ta30 rfl (.agg (.cons (.refl _) (.cons (.refl _) (.cons (.trans (.view _ _ _) (.of_eq (by rw [List.map_map]; rfl))) (.cons (.nil 1) (.cons (.trans (.view _ _ _) (.of_eq (by rw [encVs_eq, List.map_map]; rfl))) .nil)))))) (cl_encV _ (.mk 0 0 ((accE f l l.length).map (·.1)) [] ((accE f l l.length).map (·.2)))) rfl rfl ta34 rfl (.refl _) (.iface0) ⟨by rw [show mapsF f (.mk n1 m1 s1 c1 w1) (.mk n2 m2 s2 c2 w2) = some _ from by rw [mapsF, hl, hall]; rfl]; rfl, rfl⟩
 ·
  intro j y hy hp
  rw [List.getElem?_map] at hy
  obtain ⟨e, hs, rfl⟩ := Option.map_eq_some_iff.1 hy
  replace hs : l[j]? = some e := by rw [← hl]; exact hs
  rw [List.append_assoc S]
  exact ret_cell_cell (.inr rfl) Tryz.results102 rfl rfl ta30 rfl (.agg (.cons (.refl _) (.cons (.refl _) (.cons (.nil 1) (.cons (.nil 1) (.cons (.nil 5) .nil)))))) (cl_encV _ (noV)) rfl rfl ta34 rfl (.refl _) (.iface _ _ (.int _ _)) ⟨by rw [show mapsF f (.mk n1 m1 s1 c1 w1) (.mk n2 m2 s2 c2 w2) = none from by rw [mapsF, hl, bad_none hs hp]; rfl]; rfl, rfl⟩
end Go.Proofs.YtnfcnpdpfgcchaaGreat
end
section
set_option linter.unusedVariables false
set_option linter.unusedSimpArgs false
set_option maxRecDepth 20000
set_option maxHeartbeats 400000
namespace Go.Proofs.YtnfcnpdpfgcchaaGreat
open Go Go.MV
theorem rSameC_spec (a b : List Tk) (S : MS) : MCalls Tryz.prog 28 [.lst none 2 (a.map encT), .lst none 2 (b.map encT)] S fun v σ' => v = .bool (decide (a = b)) ∧ σ' = S := by
 refine mcalls_body Tryz.func28 rfl Tryz.ntmps28 (Nat.le_of_ble_eq_true rfl) ?_
 refine mwp_len (t := 0) rfl fun hlen => ?_
 rw [List.length_map] at hlen
 refine mwp_seq <| qR rfl <| qA rfl rfl rfl <| qN <| mwp_seq <| mwp_seq <| qR rfl <| qM rfl rfl rfl <| qE rfl rfl Tryz.underlying55 rfl <| qM rfl rfl rfl <| qE rfl rfl Tryz.underlying55 rfl <| qC rfl rfl rfl rfl rfl <| qN ?_
 refine mwp_cond_split rfl (fun h10 => ?_) (fun h10 => ?_)
 ·
  refine mwp_seq <| qR rfl <| qA rfl rfl rfl <| qN <| mwp_ret ?_
  exact ret_tmp (.inr rfl) Tryz.results28 rfl (.of_eq (by congr 1; symm; rw [decide_eq_false_iff_not]; intro e; subst e; simp at h10)) (.bool _) ⟨rfl, rfl⟩
 ·
  have hab : a.length = b.length := by simp at h10; omega
  refine mwp_skip <| mwp_seq <| mwp_seq <| qR rfl <| qA rfl rfl rfl <| qN <| mwp_block ?_
  refine mwp_loopK (α := Nat) [(0, _), (1, _)] (fun i => [(5, .int .i64 (i : Int))]) (fun i => []) (fun i => i ≤ a.length ∧ a.take i = b.take i) (fun i => a.length - i) (0) (.keep rfl (.keep rfl (.nil))) (.keep rfl (.nil)) (⟨by omega, rfl⟩) (rfl) ?_
  rintro i ⟨hi, heq⟩
  refine mwp_seq <| mwp_seq <| qR rfl <| qM rfl rfl rfl <| qM rfl rfl rfl <| qE rfl rfl Tryz.underlying55 rfl <| qC rfl rfl rfl rfl rfl <| qN ?_
  refine mwp_cond_split rfl (fun h14 => ?_) (fun h14 => ?_)
  ·
   have hlt : i < a.length := by simpa using h14
   obtain ⟨x, hs⟩ : ∃ q_, a[i]? = some q_ := ⟨_, List.getElem?_eq_getElem hlt⟩
   obtain ⟨y, hs2⟩ : ∃ s, b[i]? = some s := ⟨_, List.getElem?_eq_getElem (by omega)⟩
   refine mwp_skip <| mwp_seq <| mwp_block <| mwp_seq ?_
   refine mwp_draw [] [_] mo (by decide) rfl rfl rfl rfl ?_
   refine dO rfl rfl rfl (op_move rfl rfl ⟨rfl, rfl⟩) <| dO rfl rfl rfl (op_move rfl rfl ⟨rfl, rfl⟩) <| dO rfl rfl rfl (op_indexAddr rfl Tryz.underlying55 sz54 (by decide) rfl rfl rfl (get_map hs) ⟨rfl, rfl⟩) ?_
   refine dO rfl rfl rfl (op_load_sptr rfl rfl ta54 rfl ⟨rfl, rfl⟩) <| dO rfl rfl rfl (op_move rfl rfl ⟨rfl, rfl⟩) <| dO rfl rfl rfl (op_move rfl rfl ⟨rfl, rfl⟩) <| dO rfl rfl rfl (op_indexAddr rfl Tryz.underlying55 sz54 (by decide) rfl rfl rfl (get_map hs2) ⟨rfl, rfl⟩) ?_
   refine dO rfl rfl rfl (op_load_sptr rfl rfl ta54 rfl ⟨rfl, rfl⟩) <| dOps_op rfl rfl (.cons (op_eqstruct rfl (by kernel_rfl) rfl rfl rfl (.inr ⟨rfl, rfl⟩) ⟨rfl, rfl⟩) .nil) ?_
   refine dOps_nil ?_
   refine mwp_cond_split rfl (fun h25 => ?_) (fun h25 => ?_)
   ·
    refine mwp_seq <| qR rfl <| qA rfl rfl rfl <| qN <| mwp_ret ?_
    exact ret_tmp (.inr rfl) Tryz.results28 rfl (.of_eq (by congr 1; symm; rw [decide_eq_false_iff_not]; intro e; subst e; rw [hs2] at hs; injection hs with hs; subst hs; simp at h25)) (.bool _) ⟨rfl, rfl⟩
   ·
    refine mwp_skip <| qR rfl <| qM rfl rfl rfl <| qO rfl <| op_arith rfl rfl rfl rfl <| qA rfl rfl rfl <| qN ?_
    refine ⟨i + 1, by omega, ⟨by omega, ?_⟩, rfl, (.keep rfl (.keep rfl (.nil))), (.eq rfl (int_succ hlt hlen) (.nil))⟩
    rw [List.take_add_one, List.take_add_one, hs, hs2, heq]
    obtain ⟨x1, x2⟩ := x; obtain ⟨y1, y2⟩ := y
    simp at h25
    rw [h25.1, h25.2]
  ·
   have hge : i = a.length := by simp at h14; omega
   refine mwp_exit <| mwp_seq <| qR rfl <| qA rfl rfl rfl <| qN <| mwp_ret ?_
   exact ret_tmp (.inr rfl) Tryz.results28 rfl (.of_eq (by congr 1; symm; rw [decide_eq_true_iff]; rw [hge, List.take_length, hab, List.take_length] at heq; exact heq)) (.bool _) ⟨rfl, rfl⟩
end Go.Proofs.YtnfcnpdpfgcchaaGreat
end
section
set_option linter.unusedVariables false
set_option linter.unusedSimpArgs false
set_option maxRecDepth 20000
set_option maxHeartbeats 400000
namespace Go.Proofs.YtnfcnpdpfgcchaaGreat
open Go Go.MV
theorem valIs_spec (s : Sch) (x : Val) (hx : okV x) (S : MS) : MCalls Tryz.prog 23 [encS s, encV x] S fun v σ' => v = .bool (isF 16 s && isVF s x) ∧ σ' = S := by
 obtain ⟨k, ins⟩ := s
 obtain ⟨n, m, s, c, w⟩ := x
 refine mcalls_body Tryz.func23 rfl Tryz.ntmps23 (Nat.le_of_ble_eq_true rfl) ?_
 refine mwp_seq <| qR rfl <| qB rfl rfl rfl rfl rfl <| qB rfl rfl rfl rfl rfl <| qA rfl rfl rfl <| qN <| mwp_seq <| qR rfl <| qL rfl rfl rfl rfl ta24 rfl ?_
 refine wOps_op rfl (op_call rfl rfl rfl co43 ((Is_spec (.mk k ins) _).mono ?_))
 rintro _ _ ⟨rfl, rfl⟩
 refine qM rfl rfl rfl ?_
 refine wOps_case (fun h7 => ?_) (fun h7 => ?_)
 ·
  refine qL rfl rfl rfl rfl ta24 rfl <| qL rfl rfl rfl rfl ta30 rfl ?_
  refine wOps_op rfl (op_call rfl rfl rfl co44 ((isV_spec 16 (.mk k ins) h7 (.mk n m s c w) hx _).mono ?_))
  rintro _ _ ⟨rfl, rfl⟩
  refine qP rfl rfl rfl rfl <| qA rfl rfl rfl <| qN <| mwp_ret ?_
  exact ret_tmp (.inr rfl) Tryz.results23 rfl (.of_eq (by simp_all)) (.bool _) ⟨rfl, rfl⟩
 ·
  refine qS rfl <| qS rfl <| qS rfl <| qP rfl rfl rfl rfl <| qA rfl rfl rfl <| qN <| mwp_ret ?_
  exact ret_tmp (.inr rfl) Tryz.results23 rfl (.of_eq (by simp_all)) (.bool _) ⟨rfl, rfl⟩
theorem values_iter (l : List Val) (hlen : l.length ≤ maxLen) (bid l0 : Nat) : IterOk Tryz.prog 89 [] [.ref bid 0] (l.map fun x => [encV x]) (fun σ => (σ.length = l0 ∧ σ[bid]? = some (.cells [.lst none 5 (encVs l)])) ∧ ClS σ) := by
 refine iterOk_of fun id T m hok hm hyt hyf => ?_
 have hml : (l.map fun x => [encV x]).length = l.length := List.length_map ..
 refine mcalls_body Tryz.func89 rfl Tryz.ntmps89 (Nat.le_of_ble_eq_true rfl) ?_
 rw [List.append_nil]
 show mwp _ _ _ _ _ _ _ (([] : MS) ++ T 0)
 refine mwp_seq <| qR rfl <| qO rfl <| op_load_ref rfl rfl (hok _).1.2 ta28 rfl <| qE rfl rfl Tryz.underlying28 rfl <| qM rfl rfl rfl <| qN <| mwp_block ?_
 refine mwp_loopK (α := Nat × MS) [(0, _), (5, _), (6, _)] (fun x => [(7, .int .i64 (x.1 : Int))]) (fun x => T x.1 ++ x.2) (fun x => x.1 ≤ m) (fun x => l.length - x.1) (⟨0, []⟩) (.keep rfl (.keep rfl (.keep rfl (.nil)))) (.keep rfl (.nil)) (by simp) (by rw [List.append_nil]) ?_
 rintro ⟨j, J⟩ hj
 dsimp only at hj ⊢
 refine mwp_seq <| qR rfl <| qC rfl rfl rfl rfl rfl <| qN <| mwp_seq ?_
 refine mwp_cond_split rfl (fun h8 => ?_) (fun h8 => ?_)
 ·
  rw [encVs_length] at h8
  have hlt : j < l.length := by simpa using h8
  obtain ⟨⟨n1, m1, s1, c1, w1⟩, hs⟩ : ∃ x, l[j]? = some x := ⟨_, List.getElem?_eq_getElem hlt⟩
  have hy : (l.map fun x => [encV x])[j]? = some [encV (.mk n1 m1 s1 c1 w1)] := by rw [List.getElem?_map, hs]; rfl
  refine mwp_skip <| mwp_seq <| mwp_block <| mwp_seq <| qR rfl <| qO rfl <| op_indexAddr rfl Tryz.underlying28 sz30 (by decide) rfl rfl rfl (encVs_get hs) ?_
  refine qO rfl <| op_load_sptr rfl rfl ta30 rfl <| qO rfl <| op_alloc rfl zm30 <| qO rfl <| op_store_last rfl rfl rfl sz30 rfl rfl (Nat.le_of_ble_eq_true rfl) <| qN <| mwp_seq ?_
  rcases Nat.lt_or_eq_of_le hj with hjm | hjm
  ·
   refine qR rfl <| qM rfl rfl rfl <| qO rfl <| op_load_last rfl rfl ta30 rfl <| qO rfl <| (hyt j _ hjm hy).at2 rfl rfl rfl <| qO rfl <| op_not rfl rfl <| qN <| mwp_cond_f rfl (rfl) <| mwp_skip <| qR rfl <| qO rfl <| op_arith rfl rfl rfl rfl <| qM rfl rfl rfl <| qN ?_
   refine ⟨⟨j + 1, J ++ [_]⟩, by dsimp only; omega, by dsimp only; omega, List.append_assoc .., (.keep rfl (.keep rfl (.keep rfl (.nil)))), (.eq rfl (int_succ hlt hlen) (.nil))⟩
  ·
   refine qR rfl <| qM rfl rfl rfl <| qO rfl <| op_load_last rfl rfl ta30 rfl <| qO rfl <| (hyf j _ hjm hy).at2 rfl rfl rfl <| qO rfl <| op_not rfl rfl <| qN <| mwp_cond_t rfl (rfl) <| mwp_ret ?_
   rw [List.append_assoc]
   exact ret_noneS (S' := T (j + 1)) (by simp) Tryz.results89 (by rw [(hok _).1.1, (hok _).1.1]; exact Nat.le_refl _) (hok _).2 ⟨rfl, by rw [hjm, if_pos (by omega)]⟩
 ·
  rw [encVs_length] at h8
  have hge : j = l.length := by simp at h8; omega
  have hjm : j = m := by omega
  refine mwp_exit ?_
  exact ret_noneS (S' := T j) (by simp) Tryz.results89 (by rw [(hok _).1.1, (hok _).1.1]; exact Nat.le_refl _) (hok _).2 ⟨rfl, by rw [hjm, if_neg (by omega)]⟩
theorem values_spec (l : List Val) (S : MS) : MCalls Tryz.prog 61 [.lst none 5 (encVs l)] S fun v σ' => v = .fn (.func 89) [] [.ref S.length 0] ∧ σ' = S ++ [.cells [.lst none 5 (encVs l)]] := by
 refine mcalls_body Tryz.func61 rfl Tryz.ntmps61 (Nat.le_of_ble_eq_true rfl) ?_
 refine mwp_seq <| qR rfl <| qB rfl rfl rfl rfl rfl <| qA rfl rfl rfl <| qN <| mwp_seq <| qR rfl <| qO rfl <| op_makeFunc rfl rfl rfl <| qA rfl rfl rfl <| qN ?_
 refine mwp_facts fun hcv hcl => ?_
 refine mwp_ret ?_
 exact ret_tmpT (.inr rfl) Tryz.results61 rfl (.refl _) (hcv 2 _ rfl) (by simp) hcl ⟨rfl, rfl⟩
theorem xSame_spec (a b : List Bs) (S : MS) : MCalls Tryz.prog 27 [.lst none 1 (a.map encX), .lst none 1 (b.map encX)] S fun v σ' => v = .bool (decide (a = b)) ∧ σ' = S := by
 refine mcalls_body Tryz.func27 rfl Tryz.ntmps27 (Nat.le_of_ble_eq_true rfl) ?_
 refine mwp_len (t := 0) rfl fun hlen => ?_
 rw [List.length_map] at hlen
 refine mwp_seq <| qR rfl <| qA rfl rfl rfl <| qN <| mwp_seq <| mwp_seq <| qR rfl <| qM rfl rfl rfl <| qE rfl rfl Tryz.underlying26 rfl <| qM rfl rfl rfl <| qE rfl rfl Tryz.underlying26 rfl <| qC rfl rfl rfl rfl rfl <| qN ?_
 refine mwp_cond_split rfl (fun h10 => ?_) (fun h10 => ?_)
 ·
  refine mwp_seq <| qR rfl <| qA rfl rfl rfl <| qN <| mwp_ret ?_
  exact ret_tmp (.inr rfl) Tryz.results27 rfl (.of_eq (by congr 1; symm; rw [decide_eq_false_iff_not]; intro e; subst e; simp at h10)) (.bool _) ⟨rfl, rfl⟩
 ·
  have hab : a.length = b.length := by simp at h10; omega
  refine mwp_skip <| mwp_seq <| mwp_seq <| qR rfl <| qA rfl rfl rfl <| qN <| mwp_block ?_
  refine mwp_loopK (α := Nat) [(0, _), (1, _)] (fun i => [(5, .int .i64 (i : Int))]) (fun i => []) (fun i => i ≤ a.length ∧ a.take i = b.take i) (fun i => a.length - i) (0) (.keep rfl (.keep rfl (.nil))) (.keep rfl (.nil)) (⟨by omega, rfl⟩) (rfl) ?_
  rintro i ⟨hi, heq⟩
  refine mwp_seq <| mwp_seq <| qR rfl <| qM rfl rfl rfl <| qM rfl rfl rfl <| qE rfl rfl Tryz.underlying26 rfl <| qC rfl rfl rfl rfl rfl <| qN ?_
  refine mwp_cond_split rfl (fun h14 => ?_) (fun h14 => ?_)
  ·
   have hlt : i < a.length := by simpa using h14
   obtain ⟨x, hs⟩ : ∃ q_, a[i]? = some q_ := ⟨_, List.getElem?_eq_getElem hlt⟩
   obtain ⟨y, hs2⟩ : ∃ s, b[i]? = some s := ⟨_, List.getElem?_eq_getElem (by omega)⟩
   refine mwp_skip <| mwp_seq <| mwp_block <| mwp_seq ?_
   refine mwp_draw [] [_] mo (by decide) rfl rfl rfl rfl ?_
   refine dO rfl rfl rfl (op_move rfl rfl ⟨rfl, rfl⟩) <| dO rfl rfl rfl (op_move rfl rfl ⟨rfl, rfl⟩) <| dO rfl rfl rfl (op_indexAddr rfl Tryz.underlying26 sz9 (by decide) rfl rfl rfl (get_map hs) ⟨rfl, rfl⟩) ?_
   refine dO rfl rfl rfl (op_load_sptr rfl rfl ta9 rfl ⟨rfl, rfl⟩) <| dO rfl rfl rfl (op_move rfl rfl ⟨rfl, rfl⟩) <| dO rfl rfl rfl (op_move rfl rfl ⟨rfl, rfl⟩) <| dO rfl rfl rfl (op_indexAddr rfl Tryz.underlying26 sz9 (by decide) rfl rfl rfl (get_map hs2) ⟨rfl, rfl⟩) ?_
   refine dO rfl rfl rfl (op_load_sptr rfl rfl ta9 rfl ⟨rfl, rfl⟩) <| dO rfl rfl rfl (op_strcmp rfl rfl rfl rfl ⟨rfl, rfl⟩) <| dOps_nil ?_
   refine mwp_cond_split rfl (fun h25 => ?_) (fun h25 => ?_)
   ·
    refine mwp_seq <| qR rfl <| qA rfl rfl rfl <| qN <| mwp_ret ?_
    exact ret_tmp (.inr rfl) Tryz.results27 rfl (.of_eq (by congr 1; symm; rw [decide_eq_false_iff_not]; intro e; subst e; rw [hs2] at hs; injection hs with hs; subst hs; simp at h25)) (.bool _) ⟨rfl, rfl⟩
   ·
    refine mwp_skip <| qR rfl <| qM rfl rfl rfl <| qO rfl <| op_arith rfl rfl rfl rfl <| qA rfl rfl rfl <| qN ?_
    refine ⟨i + 1, by omega, ⟨by omega, ?_⟩, rfl, (.keep rfl (.keep rfl (.nil))), (.eq rfl (int_succ hlt hlen) (.nil))⟩
    rw [List.take_add_one, List.take_add_one, hs, hs2, heq]
    simp at h25
    rw [h25]
  ·
   have hge : i = a.length := by simp at h14; omega
   refine mwp_exit <| mwp_seq <| qR rfl <| qA rfl rfl rfl <| qN <| mwp_ret ?_
   exact ret_tmp (.inr rfl) Tryz.results27 rfl (.of_eq (by congr 1; symm; rw [decide_eq_true_iff]; rw [hge, List.take_length, hab, List.take_length] at heq; exact heq)) (.bool _) ⟨rfl, rfl⟩
theorem rvSame_spec (d : Nat) : ∀ (a b : Val), vdepth a ≤ d → ∀ S : MS, MCalls Tryz.prog 12 [encV a, encV b] S fun v σ' => v = .bool (decide (a = b)) ∧ σ' = S := by
 induction d with
 | zero => rintro ⟨n, m, s, c, w⟩ b h; simp [vdepth] at h
 | succ d ih =>
 rintro ⟨n, m, s, c, w⟩ ⟨n2, m2, s2, c2, w2⟩ hd S
 have hmem : ∀ x ∈ w, vdepth x ≤ d := fun x hx => by have := vdepth_mem hx; rw [vdepth] at hd; omega
 refine mcalls_body Tryz.func12 rfl Tryz.ntmps12 (Nat.le_of_ble_eq_true rfl) ?_
 refine mwp_seq <| qR rfl <| qB rfl rfl rfl rfl rfl <| qB rfl rfl rfl rfl rfl <| qA rfl rfl rfl <| qN <| mwp_seq <| mwp_seq <| qR rfl <| qF rfl rfl rfl fo30_0 <| qL rfl rfl rfl rfl ta25 rfl <| qF rfl rfl rfl fo30_0 <| qL rfl rfl rfl rfl ta25 rfl <| qC rfl rfl rfl rfl rfl <| qM rfl rfl rfl ?_
 refine wOps_case (fun h12 => ?_) (fun h12 => ?_)
 ·
  refine qS rfl <| qS rfl <| qS rfl <| qS rfl <| qS rfl <| qP rfl rfl rfl rfl <| qM rfl rfl rfl <| qS rfl <| qS rfl <| qS rfl <| qS rfl <| qS rfl <| qS rfl <| qP rfl rfl rfl rfl <| qM rfl rfl rfl <| qS rfl <| qS rfl <| qS rfl <| qS rfl <| qS rfl <| qS rfl <| qS rfl <| qP rfl rfl rfl rfl <| qM rfl rfl rfl ?_
  refine qS rfl <| qS rfl <| qS rfl <| qS rfl <| qS rfl <| qS rfl <| qS rfl <| qP rfl rfl rfl rfl <| qN <| mwp_cond_t rfl (rfl) <| mwp_seq <| qR rfl <| qA rfl rfl rfl <| qN <| mwp_ret ?_
  exact ret_tmp (.inr rfl) Tryz.results12 rfl (.of_eq (by congr 1; rw [Bool.eq_iff_iff]; simp_all <;> (intros; simp_all))) (.bool _) ⟨rfl, rfl⟩
 ·
  refine qF rfl rfl rfl fo30_1 <| qL rfl rfl rfl rfl ta25 rfl <| qF rfl rfl rfl fo30_1 <| qL rfl rfl rfl rfl ta25 rfl <| qC rfl rfl rfl rfl rfl <| qP rfl rfl rfl rfl <| qM rfl rfl rfl ?_
  refine wOps_case (fun h19 => ?_) (fun h19 => ?_)
  ·
   refine qS rfl <| qS rfl <| qS rfl <| qS rfl <| qS rfl <| qS rfl <| qP rfl rfl rfl rfl <| qM rfl rfl rfl <| qS rfl <| qS rfl <| qS rfl <| qS rfl <| qS rfl <| qS rfl <| qS rfl <| qP rfl rfl rfl rfl <| qM rfl rfl rfl <| qS rfl <| qS rfl <| qS rfl <| qS rfl <| qS rfl <| qS rfl <| qS rfl <| qP rfl rfl rfl rfl ?_
   refine qN <| mwp_cond_t rfl (rfl) <| mwp_seq <| qR rfl <| qA rfl rfl rfl <| qN <| mwp_ret ?_
   exact ret_tmp (.inr rfl) Tryz.results12 rfl (.of_eq (by congr 1; rw [Bool.eq_iff_iff]; simp_all <;> (intros; simp_all))) (.bool _) ⟨rfl, rfl⟩
  ·
   refine qF rfl rfl rfl fo30_2 <| qL rfl rfl rfl rfl ta26 rfl <| qF rfl rfl rfl fo30_2 <| qL rfl rfl rfl rfl ta26 rfl ?_
   refine wOps_op rfl (op_call rfl rfl rfl co27 ((xSame_spec s s2 _).mono ?_))
   rintro _ _ ⟨rfl, rfl⟩
   refine qO rfl <| op_not rfl rfl <| qP rfl rfl rfl rfl <| qM rfl rfl rfl ?_
   refine wOps_case (fun h27 => ?_) (fun h27 => ?_)
   ·
    refine qS rfl <| qS rfl <| qS rfl <| qS rfl <| qS rfl <| qS rfl <| qS rfl <| qP rfl rfl rfl rfl <| qM rfl rfl rfl <| qS rfl <| qS rfl <| qS rfl <| qS rfl <| qS rfl <| qS rfl <| qS rfl <| qP rfl rfl rfl rfl <| qN <| mwp_cond_t rfl (rfl) <| mwp_seq <| qR rfl <| qA rfl rfl rfl <| qN <| mwp_ret ?_
    exact ret_tmp (.inr rfl) Tryz.results12 rfl (.of_eq (by congr 1; rw [Bool.eq_iff_iff]; simp_all <;> (intros; simp_all))) (.bool _) ⟨rfl, rfl⟩
   ·
    refine qF rfl rfl rfl fo30_3 <| qL rfl rfl rfl rfl ta27 rfl <| qE rfl rfl Tryz.underlying27 rfl <| qF rfl rfl rfl fo30_3 <| qL rfl rfl rfl rfl ta27 rfl <| qE rfl rfl Tryz.underlying27 rfl <| qC rfl rfl rfl rfl rfl <| qP rfl rfl rfl rfl <| qM rfl rfl rfl ?_
    refine wOps_case (fun h36 => ?_) (fun h36 => ?_)
    ·
     have hcne : ¬ c = c2 := by intro e; subst e; simp at h36
     refine qS rfl <| qS rfl <| qS rfl <| qS rfl <| qS rfl <| qS rfl <| qS rfl <| qP rfl rfl rfl rfl <| qN <| mwp_cond_t rfl (rfl) <| mwp_seq <| qR rfl <| qA rfl rfl rfl <| qN <| mwp_ret ?_
     exact ret_tmp (.inr rfl) Tryz.results12 rfl (.of_eq (by congr 1; rw [Bool.eq_iff_iff]; simp_all <;> (intros; simp_all))) (.bool _) ⟨rfl, rfl⟩
    ·
     have hcc : c.length = c2.length := by rw [List.length_map, List.length_map] at h36; simp at h36; omega
     refine qF rfl rfl rfl fo30_4 <| qL rfl rfl rfl rfl ta28 rfl <| qE rfl rfl Tryz.underlying28 rfl <| qF rfl rfl rfl fo30_4 <| qL rfl rfl rfl rfl ta28 rfl <| qE rfl rfl Tryz.underlying28 rfl <| qC rfl rfl rfl rfl rfl <| qP rfl rfl rfl rfl <| qN ?_
     refine mwp_cond_split rfl (fun h44 => ?_) (fun h44 => ?_)
     ·
      have hwne : ¬ w = w2 := by intro e; subst e; simp at h44
      refine mwp_seq <| qR rfl <| qA rfl rfl rfl <| qN <| mwp_ret ?_
      exact ret_tmp (.inr rfl) Tryz.results12 rfl (.of_eq (by congr 1; rw [Bool.eq_iff_iff]; simp_all <;> (intros; simp_all))) (.bool _) ⟨rfl, rfl⟩
     ·
      have hww : w.length = w2.length := by rw [encVs_length, encVs_length] at h44; simp at h44; omega
      refine mwp_len (t := 29) rfl fun hlc => ?_
      refine mwp_len (t := 38) rfl fun hlw => ?_
      rw [List.length_map] at hlc
      rw [encVs_length] at hlw
      refine mwp_skip <| mwp_seq <| mwp_seq <| qR rfl <| qA rfl rfl rfl <| qN <| mwp_block ?_
      refine mwp_loopK (α := Nat) [(2, _), (3, _)] (fun i => [(5, .int .i64 (i : Int))]) (fun i => [.cells (encV (.mk n m s c w)).cells, .cells (encV (.mk n2 m2 s2 c2 w2)).cells]) (fun i => i ≤ c.length ∧ c.take i = c2.take i) (fun i => c.length - i) (0) (.keep rfl (.keep rfl (.nil))) (.keep rfl (.nil)) (⟨by omega, rfl⟩) (rfl) ?_
      rintro i ⟨hi, heq⟩
      refine mwp_seq <| mwp_seq <| qR rfl <| qM rfl rfl rfl <| qF rfl rfl rfl fo30_3 <| qL rfl rfl rfl rfl ta27 rfl <| qE rfl rfl Tryz.underlying27 rfl <| qC rfl rfl rfl rfl rfl <| qN ?_
      refine mwp_cond_split rfl (fun h49 => ?_) (fun h49 => ?_)
      ·
       have hlt : i < c.length := by simpa using h49
       obtain ⟨x, hs⟩ : ∃ q_, c[i]? = some q_ := ⟨_, List.getElem?_eq_getElem hlt⟩
       obtain ⟨y, hs2⟩ : ∃ s, c2[i]? = some s := ⟨_, List.getElem?_eq_getElem (by omega)⟩
       refine mwp_skip <| mwp_seq <| mwp_block <| mwp_seq ?_
       refine mwp_draw [] [_] mo (by decide) rfl rfl rfl rfl ?_
       refine dO rfl rfl rfl (op_fieldAddr_ref rfl rfl fo30_3 ⟨rfl, rfl⟩) <| dO rfl rfl rfl (op_load' rfl rfl rfl ta27 rfl ⟨rfl, rfl⟩) <| dO rfl rfl rfl (op_move rfl rfl ⟨rfl, rfl⟩) <| dO rfl rfl rfl (op_indexAddr rfl Tryz.underlying27 sz55 (by decide) rfl rfl rfl (get_map hs) ⟨rfl, rfl⟩) ?_
       refine dO rfl rfl rfl (op_load_sptr rfl rfl ta55 rfl ⟨rfl, rfl⟩) <| dO rfl rfl rfl (op_fieldAddr_ref rfl rfl fo30_3 ⟨rfl, rfl⟩) <| dO rfl rfl rfl (op_load' rfl rfl rfl ta27 rfl ⟨rfl, rfl⟩) <| dO rfl rfl rfl (op_move rfl rfl ⟨rfl, rfl⟩) <| dO rfl rfl rfl (op_indexAddr rfl Tryz.underlying27 sz55 (by decide) rfl rfl rfl (get_map hs2) ⟨rfl, rfl⟩) ?_
       refine dO rfl rfl rfl (op_load_sptr rfl rfl ta55 rfl ⟨rfl, rfl⟩) <| dOps_op rfl rfl (.cons (op_call rfl rfl rfl co28 (rSameC_spec x y _)) .nil) <| dO rfl rfl rfl (op_not rfl rfl ⟨rfl, rfl⟩) <| dOps_nil ?_
       refine mwp_cond_split rfl (fun h63 => ?_) (fun h63 => ?_)
       ·
        refine mwp_seq <| qR rfl <| qA rfl rfl rfl <| qN <| mwp_ret ?_
        exact ret_tmp (.inr rfl) Tryz.results12 rfl (.of_eq (by congr 1; symm; rw [decide_eq_false_iff_not]; intro e; injection e with e1 e2 e3 e4 e5; subst e4; rw [hs2] at hs; injection hs with hs; subst hs; simp at h63)) (.bool _) ⟨rfl, rfl⟩
       ·
        refine mwp_skip <| qR rfl <| qM rfl rfl rfl <| qO rfl <| op_arith rfl rfl rfl rfl <| qA rfl rfl rfl <| qN ?_
        refine ⟨i + 1, by omega, ⟨by omega, ?_⟩, rfl, (.keep rfl (.keep rfl (.nil))), (.eq rfl (int_succ hlt hlc) (.nil))⟩
        rw [List.take_add_one, List.take_add_one, hs, hs2, heq, not_dec h63]
      ·
       have hge : i = c.length := by simp at h49; omega
       rw [hge, List.take_length, hcc, List.take_length] at heq
       refine mwp_exit <| mwp_seq <| mwp_seq <| qR rfl <| qA rfl rfl rfl <| qN <| mwp_block ?_
       refine mwp_loopK (α := Nat) [(2, _), (3, _)] (fun k => [(6, .int .i64 (k : Int))]) (fun k => [.cells (encV (.mk n m s c w)).cells, .cells (encV (.mk n2 m2 s2 c2 w2)).cells]) (fun k => k ≤ w.length ∧ w.take k = w2.take k) (fun k => w.length - k) (0) (.keep rfl (.keep rfl (.nil))) (.keep rfl (.nil)) (⟨by omega, rfl⟩) (rfl) ?_
       rintro k ⟨hk, heq2⟩
       refine mwp_seq <| mwp_seq <| qR rfl <| qM rfl rfl rfl <| qF rfl rfl rfl fo30_4 <| qL rfl rfl rfl rfl ta28 rfl <| qE rfl rfl Tryz.underlying28 rfl <| qC rfl rfl rfl rfl rfl <| qN ?_
       refine mwp_cond_split rfl (fun h68 => ?_) (fun h68 => ?_)
       ·
        rw [encVs_length] at h68
        have hlt2 : k < w.length := by simpa using h68
        obtain ⟨⟨n3, m3, s3, c3, w3⟩, hs3⟩ : ∃ q, w[k]? = some q := ⟨_, List.getElem?_eq_getElem hlt2⟩
        obtain ⟨⟨n4, m4, s4, c4, w4⟩, hs4⟩ : ∃ q, w2[k]? = some q := ⟨_, List.getElem?_eq_getElem (by omega)⟩
        refine mwp_skip <| mwp_seq <| mwp_block <| mwp_seq ?_
        refine mwp_draw [] [_] mo (by decide) rfl rfl rfl rfl ?_
        refine dO rfl rfl rfl (op_fieldAddr_ref rfl rfl fo30_4 ⟨rfl, rfl⟩) <| dO rfl rfl rfl (op_load' rfl rfl rfl ta28 rfl ⟨rfl, rfl⟩) <| dO rfl rfl rfl (op_move rfl rfl ⟨rfl, rfl⟩) <| dO rfl rfl rfl (op_indexAddr rfl Tryz.underlying28 sz30 (by decide) rfl rfl rfl (encVs_get hs3) ⟨rfl, rfl⟩) ?_
        refine dO rfl rfl rfl (op_load_sptr rfl rfl ta30 rfl ⟨rfl, rfl⟩) <| dO rfl rfl rfl (op_fieldAddr_ref rfl rfl fo30_4 ⟨rfl, rfl⟩) <| dO rfl rfl rfl (op_load' rfl rfl rfl ta28 rfl ⟨rfl, rfl⟩) <| dO rfl rfl rfl (op_move rfl rfl ⟨rfl, rfl⟩) <| dO rfl rfl rfl (op_indexAddr rfl Tryz.underlying28 sz30 (by decide) rfl rfl rfl (encVs_get hs4) ⟨rfl, rfl⟩) ?_
        refine dO rfl rfl rfl (op_load_sptr rfl rfl ta30 rfl ⟨rfl, rfl⟩) <| dOps_op rfl rfl (.cons (op_call rfl rfl rfl co12 (ih (.mk n3 m3 s3 c3 w3) (.mk n4 m4 s4 c4 w4) (hmem _ (List.mem_of_getElem? hs3)) _)) .nil) <| dO rfl rfl rfl (op_not rfl rfl ⟨rfl, rfl⟩) <| dOps_nil ?_
        refine mwp_cond_split rfl (fun h82 => ?_) (fun h82 => ?_)
        ·
         refine mwp_seq <| qR rfl <| qA rfl rfl rfl <| qN <| mwp_ret ?_
         exact ret_tmp (.inr rfl) Tryz.results12 rfl (.of_eq (by congr 1; symm; rw [decide_eq_false_iff_not]; intro e; injection e with e1 e2 e3 e4 e5; subst e5; rw [hs4] at hs3; injection hs3 with hs3; rw [hs3] at h82; simp at h82)) (.bool _) ⟨rfl, rfl⟩
        ·
         refine mwp_skip <| qR rfl <| qM rfl rfl rfl <| qO rfl <| op_arith rfl rfl rfl rfl <| qA rfl rfl rfl <| qN ?_
         refine ⟨k + 1, by omega, ⟨by omega, ?_⟩, rfl, (.keep rfl (.keep rfl (.nil))), (.eq rfl (int_succ hlt2 hlw) (.nil))⟩
         rw [List.take_add_one, List.take_add_one, hs3, hs4, heq2, not_dec h82]
       ·
        rw [encVs_length] at h68
        have hge2 : k = w.length := by simp at h68; omega
        rw [hge2, List.take_length, hww, List.take_length] at heq2
        refine mwp_exit <| mwp_seq <| qR rfl <| qA rfl rfl rfl <| qN <| mwp_ret ?_
        exact ret_tmp (.inr rfl) Tryz.results12 rfl (.of_eq (by congr 1; rw [Bool.eq_iff_iff]; simp_all)) (.bool _) ⟨rfl, rfl⟩
theorem rSame_spec (a b : Val) (S : MS) : MCalls Tryz.prog 12 [encV a, encV b] S fun v σ' => v = .bool (decide (a = b)) ∧ σ' = S := rvSame_spec _ a b (Nat.le_refl _) S
end Go.Proofs.YtnfcnpdpfgcchaaGreat
end
section
set_option linter.unusedVariables false
set_option linter.unusedSimpArgs false
set_option maxRecDepth 20000
set_option maxHeartbeats 400000
namespace Go.Proofs.YtnfcnpdpfgcchaaGreat
open Go Go.MV
theorem goP_snoc {F : Sch → Val → Val → Option Val} : ∀ {ins : List Sch} {w1 w2 : List Val} {i : Nat} {acc : List Val} {s : Sch} {x y v : Val}, goP ((ins.take i).map F) w1 w2 = some acc → ins[i]? = some s → w1[i]? = some x → w2[i]? = some y → F s x y = some v → goP ((ins.take (i + 1)).map F) w1 w2 = some (acc ++ [v])
 | [], _, _, _, _, _, _, _, _, _, h, _, _, _ => by simp at h
 | _ :: _, [], _, _, _, _, _, _, _, _, _, h, _, _ => by simp at h
 | _ :: _, _ :: _, [], _, _, _, _, _, _, _, _, _, h, _ => by simp at h
 | s0 :: ins, x0 :: w1, y0 :: w2, 0, acc, s, x, y, v, h, hs, hx, hy, hv => by
  simp only [List.getElem?_cons_zero, Option.some.injEq] at hs hx hy
  subst hs hx hy
  simp [goP] at h
  subst h
  simp [goP, hv]
 | s0 :: ins, x0 :: w1, y0 :: w2, i + 1, acc, s, x, y, v, h, hs, hx, hy, hv => by
  simp only [List.getElem?_cons_succ] at hs hx hy
  rw [List.take_succ_cons, List.map_cons, goP] at h ⊢
  cases hF : F s0 x0 y0 with
  | none => rw [hF] at h; cases h
  | some u =>
   rw [hF] at h
   cases hg : goP ((ins.take i).map F) w1 w2 with
   | none => rw [hg] at h; cases h
   | some l =>
    rw [hg] at h
    simp at h
    subst h
    dsimp only
    rw [goP_snoc hg hs hx hy hv]
    rfl
theorem goP_bad {F : Sch → Val → Val → Option Val} : ∀ {ins : List Sch} {w1 w2 : List Val} {i : Nat} {s : Sch} {x y : Val}, ins[i]? = some s → w1[i]? = some x → w2[i]? = some y → F s x y = none → goP (ins.map F) w1 w2 = none
 | [], _, _, _, _, _, _, h, _, _, _ => by simp at h
 | _ :: _, [], _, _, _, _, _, _, h, _, _ => by simp at h
 | _ :: _, _ :: _, [], _, _, _, _, _, _, h, _ => by simp at h
 | s0 :: ins, x0 :: w1, y0 :: w2, 0, s, x, y, hs, hx, hy, hv => by
  simp only [List.getElem?_cons_zero, Option.some.injEq] at hs hx hy
  subst hs hx hy
  simp [goP, hv]
 | s0 :: ins, x0 :: w1, y0 :: w2, i + 1, s, x, y, hs, hx, hy, hv => by
  simp only [List.getElem?_cons_succ] at hs hx hy
  rw [List.map_cons, goP, goP_bad hs hx hy hv]
  cases F s0 x0 y0 <;> rfl
theorem goP_len {fs : List (Val → Val → Option Val)} : ∀ {w1 w2 : List Val} {l : List Val}, goP fs w1 w2 = some l → l.length ≤ fs.length := by
 induction fs with
 | nil => intro w1 w2 l h; simp [goP] at h; subst h; simp
 | cons f fs ih =>
  intro w1 w2 l h
  cases w1 with
  | nil => simp [goP] at h; subst h; simp
  | cons x w1 =>
   cases w2 with
   | nil => simp [goP] at h; subst h; simp
   | cons y w2 =>
    rw [goP] at h
    cases hf : f x y with
    | none => rw [hf] at h; cases h
    | some v =>
     rw [hf] at h
     cases hg : goP fs w1 w2 with
     | none => rw [hg] at h; cases h
     | some q => rw [hg] at h; simp at h; subst h; have := ih hg; simp; omega
theorem cl_outV {acc : List Val} {t n : Nat} (ht : t < n) : (MObj.cells [.int .u64 0, .int .u64 0, .lst0, .lst0, .lst (some t) 5 (encVs acc)]).cl n := by
 intro x hx
 simp only [List.mem_cons, List.not_mem_nil, or_false] at hx
 rcases hx with rfl | rfl | rfl | rfl | rfl
 ·exact .int _ _
 ·exact .int _ _
 ·exact .lst0
 ·exact .lst0
 ·rw [encVs_eq]; exact cl_lstT ht (fun v => cl_encV n v) (fun v => by cases v; exact .inl rfl)
theorem cap_t {v : Val} (h : largeF v = true) : capF (some v) = none := by simp [capF, h]
theorem cap_f {v : Val} (h : largeF v = false) : capF (some v) = some v := by simp [capF, h]
theorem pairs_specJ (k : Int) (ins : List Sch) (hil : ins.length ≤ 40) (f : Sch → Val → Val → Option Val) (n1 m1 : Int) (s1 : List Bs) (c1 : List (List Tk)) (w1 : List Val) (n2 m2 : Int) (s2 : List Bs) (c2 : List (List Tk)) (w2 : List Val) (hl1 : w1.length = ins.length) (hl2 : w2.length = ins.length) (hb : ∀ (i : Nat) (s : Sch) (x y : Val), ins[i]? = some s → w1[i]? = some x → w2[i]? = some y → ∀ S : MS, MCalls Tryz.prog 83 [encS s, encV x, encV y] S fun v σ' => v = encO (f s x y) ∧ σ' = S) (S : MS) : MCalls Tryz.prog 103 [encS (.mk k ins), encV (.mk n1 m1 s1 c1 w1), encV (.mk n2 m2 s2 c2 w2)] S fun v σ' => v = encO (pairF2 (ins.map f) (.mk n1 m1 s1 c1 w1) (.mk n2 m2 s2 c2 w2)) ∧ σ' = S := by
 refine mcalls_body Tryz.func103 rfl Tryz.ntmps103 (Nat.le_of_ble_eq_true rfl) ?_
 have hlen : ins.length ≤ maxLen := by simp only [maxLen]; omega
 refine mwp_seq <| qR rfl <| qB rfl rfl rfl rfl rfl <| qB rfl rfl rfl rfl rfl <| qB rfl rfl rfl rfl rfl <| qO rfl <| op_alloc' rfl zm30 rfl rfl <| qA rfl rfl rfl <| qN <| mwp_seq <| qR rfl <| qO rfl <| op_alloc' rfl zm30 rfl rfl <| qN <| mwp_seq <| mwp_seq <| qR rfl <| qF rfl rfl rfl fo24_1 <| qL rfl rfl rfl rfl ta22 rfl <| qE rfl rfl Tryz.underlying22 rfl <| qM rfl rfl rfl <| qN ?_
 refine mwp_block <| mwp_cellrowAt 4 4 30 5 rfl rfl (Nat.le_refl _) rfl rfl ?_
 refine mwp_loopKJ (α := Nat × List Val) [(4, _), (5, _), (6, _), (8, _), (14, _), (15, _)] (fun x => [(16, .int .i64 (x.1 : Int))]) (fun x => [.cells (encS (.mk k ins)).cells, .cells (encV (.mk n1 m1 s1 c1 w1)).cells, .cells (encV (.mk n2 m2 s2 c2 w2)).cells, .cells [.int .u64 0, .int .u64 0, .lst0, .lst0, .lst0], .cells [.int .u64 0, .int .u64 0, .lst0, .lst0, .lst (some (S.length + 5)) 5 (encVs x.2)], .row 30 5 x.2.length]) (fun x => x.1 ≤ ins.length ∧ goP ((ins.take x.1).map f) w1 w2 = some x.2) (fun x => ins.length - x.1) (⟨0, []⟩) (Nat.le_refl _) (.keep rfl (.keep rfl (.keep rfl (.keep rfl (.keep rfl (.keep rfl (.nil))))))) (.keep rfl (.nil)) (⟨by simp, by simp [goP]⟩) (rfl) ?_
 rintro ⟨i, acc⟩ ⟨hi, he⟩
 dsimp only at hi he ⊢
 have hal : acc.length ≤ 1000 := by have h1 := goP_len he; rw [List.length_map, List.length_take] at h1; omega
 refine mwp_seq <| qR rfl <| qC rfl rfl rfl rfl rfl <| qN <| mwp_seq ?_
 refine mwp_cond_split rfl (fun h17 => ?_) (fun h17 => ?_)
 ·
  rw [encSs_length] at h17
  have hlt : i < ins.length := by simpa using h17
  obtain ⟨⟨k1, i1⟩, hs⟩ : ∃ q, ins[i]? = some q := ⟨_, List.getElem?_eq_getElem hlt⟩
  obtain ⟨x, hx⟩ : ∃ q, w1[i]? = some q := ⟨_, List.getElem?_eq_getElem (by omega)⟩
  obtain ⟨y, hy⟩ : ∃ q, w2[i]? = some q := ⟨_, List.getElem?_eq_getElem (by omega)⟩
  obtain ⟨xn, xm, xs, xc, xw⟩ := x
  obtain ⟨yn, ym, ys, yc, yw⟩ := y
  refine mwp_skip <| mwp_seq <| mwp_block <| mwp_seq <| qR rfl <| qM rfl rfl rfl <| qO rfl <| op_indexAddr rfl Tryz.underlying22 sz24 (by decide) rfl rfl rfl (encSs_get hs) ?_
  refine qO rfl <| op_load_sptr rfl rfl ta24 rfl <| qO rfl <| op_alloc' rfl zm24 rfl rfl <| qA rfl rfl rfl <| qO rfl <| op_store' rfl rfl rfl rfl sz24 rfl rfl (Nat.le_of_ble_eq_true rfl) rfl <| qN <| mwp_seq ?_
  have hof := hb i _ _ _ hs hx hy
  rcases hf : f (.mk k1 i1) (.mk xn xm xs xc xw) (.mk yn ym ys yc yw) with _ | ⟨⟨n3, m3, s3, c3, w3⟩⟩ <;> rw [hf] at hof
  ·
   refine mwp_draw [15, 16] [_, S ++ [.cells (encS (.mk k ins)).cells, .cells (encV (.mk n1 m1 s1 c1 w1)).cells, .cells (encV (.mk n2 m2 s2 c2 w2)).cells, .cells [.int .u64 0, .int .u64 0, .lst0, .lst0, .lst0], .cells [.int .u64 0, .int .u64 0, .lst0, .lst0, .lst (some (S.length + 5)) 5 ((encVs acc))], .row 30 5 acc.length, .cells (encS (.mk k1 i1)).cells, .cells [.int .u64 0, .int .u64 0, .lst0, .lst0, .lst0]], S ++ [.cells (encS (.mk k ins)).cells, .cells (encV (.mk n1 m1 s1 c1 w1)).cells, .cells (encV (.mk n2 m2 s2 c2 w2)).cells, .cells [.int .u64 0, .int .u64 0, .lst0, .lst0, .lst0], .cells [.int .u64 0, .int .u64 0, .lst0, .lst0, .lst (some (S.length + 5)) 5 ((encVs acc))], .row 30 5 acc.length, .cells (encS (.mk k1 i1)).cells, .cells (encV noV).cells]] mo (by decide) rfl rfl rfl rfl ?_
   refine dOps_op rfl rfl (.cons (op_load' rfl rfl rfl ta24 rfl ⟨rfl, rfl⟩) (.cons (op_load' rfl rfl rfl ta24 rfl ⟨rfl, rfl⟩) (.nil))) <| dOps_op rfl rfl (.cons (op_fieldAddr_ref rfl rfl fo30_4 ⟨rfl, rfl⟩) (.cons (op_fieldAddr_ref rfl rfl fo30_4 ⟨rfl, rfl⟩) (.nil))) <| dOps_op rfl rfl (.cons (op_load' rfl rfl rfl ta28 rfl ⟨rfl, rfl⟩) (.cons (op_load' rfl rfl rfl ta28 rfl ⟨rfl, rfl⟩) (.nil))) <| dOps_op rfl rfl (.cons (op_move rfl rfl ⟨rfl, rfl⟩) (.cons (op_move rfl rfl ⟨rfl, rfl⟩) (.nil))) <| dOps_op rfl rfl (.cons (op_indexAddr rfl Tryz.underlying28 sz30 (by decide) rfl rfl rfl (encVs_get hx) ⟨rfl, rfl⟩) (.cons (op_indexAddr rfl Tryz.underlying28 sz30 (by decide) rfl rfl rfl (encVs_get hx) ⟨rfl, rfl⟩) (.nil))) ?_
   refine dOps_op rfl rfl (.cons (op_load_sptr rfl rfl ta30 rfl ⟨rfl, rfl⟩) (.cons (op_load_sptr rfl rfl ta30 rfl ⟨rfl, rfl⟩) (.nil))) <| dOps_op rfl rfl (.cons (op_fieldAddr_ref rfl rfl fo30_4 ⟨rfl, rfl⟩) (.cons (op_fieldAddr_ref rfl rfl fo30_4 ⟨rfl, rfl⟩) (.nil))) <| dOps_op rfl rfl (.cons (op_load' rfl rfl rfl ta28 rfl ⟨rfl, rfl⟩) (.cons (op_load' rfl rfl rfl ta28 rfl ⟨rfl, rfl⟩) (.nil))) <| dOps_op rfl rfl (.cons (op_move rfl rfl ⟨rfl, rfl⟩) (.cons (op_move rfl rfl ⟨rfl, rfl⟩) (.nil))) <| dOps_op rfl rfl (.cons (op_indexAddr rfl Tryz.underlying28 sz30 (by decide) rfl rfl rfl (encVs_get hy) ⟨rfl, rfl⟩) (.cons (op_indexAddr rfl Tryz.underlying28 sz30 (by decide) rfl rfl rfl (encVs_get hy) ⟨rfl, rfl⟩) (.nil))) ?_
   refine dOps_op rfl rfl (.cons (op_load_sptr rfl rfl ta30 rfl ⟨rfl, rfl⟩) (.cons (op_load_sptr rfl rfl ta30 rfl ⟨rfl, rfl⟩) (.nil))) <| dOps_op rfl rfl (.cons (op_call rfl rfl rfl co83 (hof _)) (.cons (op_call rfl rfl rfl co83 (hof _)) (.nil))) <| dOps_op rfl rfl (.cons (op_move rfl rfl ⟨rfl, rfl⟩) (.cons (op_move rfl rfl ⟨rfl, rfl⟩) (.nil))) <| dOps_op rfl rfl (.cons (op_extract rfl rfl rfl ⟨rfl, rfl⟩) (.cons (op_extract rfl rfl rfl ⟨rfl, rfl⟩) (.nil))) <| dOps_op rfl rfl (.cons (op_extract rfl rfl rfl ⟨rfl, rfl⟩) (.cons (op_extract rfl rfl rfl ⟨rfl, rfl⟩) (.cons (op_extract rfl rfl rfl ⟨rfl, rfl⟩) (.nil)))) <| dOps_eff rfl rfl rfl rfl (op_alloc' rfl zm30 rfl rfl ⟨rfl, rfl⟩) <| dOps_eff rfl rfl rfl rfl (op_store' rfl rfl rfl rfl sz30 rfl rfl (Nat.le_of_ble_eq_true rfl) rfl ⟨rfl, rfl⟩) <| dO rfl rfl rfl (op_assign rfl rfl ⟨rfl, rfl⟩) <| dOps_nil <| mwp_seq <| mwp_seq <| qR rfl <| qM rfl rfl rfl <| qO rfl <| op_ifnil rfl Tryz.underlying34 rfl rfl (.inr ⟨rfl, rfl⟩) <| qN <| mwp_cond_t rfl (rfl) <| mwp_seq <| qR rfl <| qO rfl <| op_build rfl Tryz.underlying30 zm30 .nil (by kernel_rfl) ?_
   refine qM rfl rfl rfl <| qO rfl <| op_store' rfl rfl rfl rfl sz30 rfl rfl (Nat.le_of_ble_eq_true rfl) rfl <| qA rfl rfl rfl <| qN <| mwp_ret ?_
   exact ret_cell_tmp (.inr rfl) Tryz.results103 rfl rfl ta30 rfl (.agg (.cons (.refl _) (.cons (.refl _) (.cons (.nil 1) (.cons (.nil 1) (.cons (.nil 5) .nil)))))) (cl_encV _ (noV)) rfl (.refl _) (.iface _ _ (.int _ _)) ⟨by rw [show pairF2 (ins.map f) (.mk n1 m1 s1 c1 w1) (.mk n2 m2 s2 c2 w2) = none from by rw [pairF2]; show (goP (ins.map f) w1 w2).map _ = none; rw [goP_bad hs hx hy hf]; rfl]; rfl, rfl⟩
  ·
   refine mwp_draw [15, 16] [_, S ++ [.cells (encS (.mk k ins)).cells, .cells (encV (.mk n1 m1 s1 c1 w1)).cells, .cells (encV (.mk n2 m2 s2 c2 w2)).cells, .cells [.int .u64 0, .int .u64 0, .lst0, .lst0, .lst0], .cells [.int .u64 0, .int .u64 0, .lst0, .lst0, .lst (some (S.length + 5)) 5 ((encVs acc))], .row 30 5 acc.length, .cells (encS (.mk k1 i1)).cells, .cells [.int .u64 0, .int .u64 0, .lst0, .lst0, .lst0]], S ++ [.cells (encS (.mk k ins)).cells, .cells (encV (.mk n1 m1 s1 c1 w1)).cells, .cells (encV (.mk n2 m2 s2 c2 w2)).cells, .cells [.int .u64 0, .int .u64 0, .lst0, .lst0, .lst0], .cells [.int .u64 0, .int .u64 0, .lst0, .lst0, .lst (some (S.length + 5)) 5 ((encVs acc))], .row 30 5 acc.length, .cells (encS (.mk k1 i1)).cells, .cells (encV (.mk n3 m3 s3 c3 w3)).cells]] mo (by decide) rfl rfl rfl rfl ?_
   refine dOps_op rfl rfl (.cons (op_load' rfl rfl rfl ta24 rfl ⟨rfl, rfl⟩) (.cons (op_load' rfl rfl rfl ta24 rfl ⟨rfl, rfl⟩) (.nil))) <| dOps_op rfl rfl (.cons (op_fieldAddr_ref rfl rfl fo30_4 ⟨rfl, rfl⟩) (.cons (op_fieldAddr_ref rfl rfl fo30_4 ⟨rfl, rfl⟩) (.nil))) <| dOps_op rfl rfl (.cons (op_load' rfl rfl rfl ta28 rfl ⟨rfl, rfl⟩) (.cons (op_load' rfl rfl rfl ta28 rfl ⟨rfl, rfl⟩) (.nil))) <| dOps_op rfl rfl (.cons (op_move rfl rfl ⟨rfl, rfl⟩) (.cons (op_move rfl rfl ⟨rfl, rfl⟩) (.nil))) <| dOps_op rfl rfl (.cons (op_indexAddr rfl Tryz.underlying28 sz30 (by decide) rfl rfl rfl (encVs_get hx) ⟨rfl, rfl⟩) (.cons (op_indexAddr rfl Tryz.underlying28 sz30 (by decide) rfl rfl rfl (encVs_get hx) ⟨rfl, rfl⟩) (.nil))) ?_
   refine dOps_op rfl rfl (.cons (op_load_sptr rfl rfl ta30 rfl ⟨rfl, rfl⟩) (.cons (op_load_sptr rfl rfl ta30 rfl ⟨rfl, rfl⟩) (.nil))) <| dOps_op rfl rfl (.cons (op_fieldAddr_ref rfl rfl fo30_4 ⟨rfl, rfl⟩) (.cons (op_fieldAddr_ref rfl rfl fo30_4 ⟨rfl, rfl⟩) (.nil))) <| dOps_op rfl rfl (.cons (op_load' rfl rfl rfl ta28 rfl ⟨rfl, rfl⟩) (.cons (op_load' rfl rfl rfl ta28 rfl ⟨rfl, rfl⟩) (.nil))) <| dOps_op rfl rfl (.cons (op_move rfl rfl ⟨rfl, rfl⟩) (.cons (op_move rfl rfl ⟨rfl, rfl⟩) (.nil))) <| dOps_op rfl rfl (.cons (op_indexAddr rfl Tryz.underlying28 sz30 (by decide) rfl rfl rfl (encVs_get hy) ⟨rfl, rfl⟩) (.cons (op_indexAddr rfl Tryz.underlying28 sz30 (by decide) rfl rfl rfl (encVs_get hy) ⟨rfl, rfl⟩) (.nil))) ?_
   refine dOps_op rfl rfl (.cons (op_load_sptr rfl rfl ta30 rfl ⟨rfl, rfl⟩) (.cons (op_load_sptr rfl rfl ta30 rfl ⟨rfl, rfl⟩) (.nil))) <| dOps_op rfl rfl (.cons (op_call rfl rfl rfl co83 (hof _)) (.cons (op_call rfl rfl rfl co83 (hof _)) (.nil))) <| dOps_op rfl rfl (.cons (op_move rfl rfl ⟨rfl, rfl⟩) (.cons (op_move rfl rfl ⟨rfl, rfl⟩) (.nil))) <| dOps_op rfl rfl (.cons (op_extract rfl rfl rfl ⟨rfl, rfl⟩) (.cons (op_extract rfl rfl rfl ⟨rfl, rfl⟩) (.nil))) <| dOps_op rfl rfl (.cons (op_extract rfl rfl rfl ⟨rfl, rfl⟩) (.cons (op_extract rfl rfl rfl ⟨rfl, rfl⟩) (.cons (op_extract rfl rfl rfl ⟨rfl, rfl⟩) (.nil)))) <| dOps_eff rfl rfl rfl rfl (op_alloc' rfl zm30 rfl rfl ⟨rfl, rfl⟩) <| dOps_eff rfl rfl rfl rfl (op_store' rfl rfl rfl rfl sz30 rfl rfl (Nat.le_of_ble_eq_true rfl) rfl ⟨rfl, rfl⟩) <| dO rfl rfl rfl (op_assign rfl rfl ⟨rfl, rfl⟩) <| dOps_nil <| mwp_seq <| mwp_seq <| qR rfl <| qM rfl rfl rfl <| qO rfl <| op_if0 rfl Tryz.underlying34 rfl rfl (.inr ⟨rfl, rfl⟩) <| qN <| mwp_cond_f rfl (rfl) <| mwp_skip <| qR rfl <| qF rfl rfl rfl fo30_4 <| qL rfl rfl rfl rfl ta28 rfl <| qL rfl rfl rfl rfl ta30 rfl <| qO rfl <| op_buildSlice rfl Tryz.underlying28 el30 rfl rfl (by decide) (by decide) rfl rfl ?_
   refine qO rfl <| op_append' rfl Tryz.underlying28 el30 rfl rfl rfl (by simp [encVs_length]) (by simp [encVs_length]; omega) (by simp [encVs_length]; omega) rfl ?_
   refine qF rfl rfl rfl fo30_4 <| qO rfl <| op_store' rfl rfl rfl rfl sz28 rfl rfl (Nat.le_of_ble_eq_true rfl) rfl <| qN <| qR rfl <| qO rfl <| op_arith rfl rfl rfl rfl <| qM rfl rfl rfl <| qN ?_
   refine ⟨⟨i + 1, acc ++ [.mk n3 m3 s3 c3 w3]⟩, _, by dsimp only; omega, ⟨by dsimp only; omega, goP_snoc he hs hx hy hf⟩, by simp only [encVs_append, List.length_append]; rfl, .same (.same (.same (.same (.new (cl_outV (by simp)) (.new trivial .nil))))), (.old rfl rfl (.old rfl rfl (.old rfl rfl (.old rfl rfl (.old rfl rfl (.old rfl rfl (.nil))))))), (.new' rfl (int_succ hlt hlen) (.int _ _) (.nil))⟩
 ·
  rw [encSs_length] at h17
  have hge : i = ins.length := by simp at h17; omega
  refine mwp_exit <| mwp_seq <| qR rfl <| qL rfl rfl rfl rfl ta30 rfl <| qO rfl <| op_store' rfl rfl rfl rfl sz30 rfl rfl (Nat.le_of_ble_eq_true rfl) rfl <| qA rfl rfl rfl <| qN <| mwp_ret ?_
  exact ret_cell_tmp (.inr rfl) Tryz.results103 rfl rfl ta30 rfl (.agg (.cons (.refl _) (.cons (.refl _) (.cons (.nil 1) (.cons (.nil 1) (.cons (.view _ _ _) .nil)))))) (cl_encV _ (.mk 0 0 [] [] acc)) rfl (.refl _) (.iface0) ⟨by rw [show pairF2 (ins.map f) (.mk n1 m1 s1 c1 w1) (.mk n2 m2 s2 c2 w2) = some _ from by rw [pairF2]; show (goP (ins.map f) w1 w2).map _ = _; rw [hge, List.take_length] at he; rw [he]; rfl]; rfl, rfl⟩
end Go.Proofs.YtnfcnpdpfgcchaaGreat
end
