/-
  Texts on which the proof of TableKeys leans: part 4.
-/
import Derived.Test.YtciimaabeabkdaaGreatDoorTableKeysC
import Derived.Lib.Bytealg
import Derived.Laws.Externs
import Derived.WalkKit
import Derived.LaidEql
import Derived.RowKitTokens
import Derived.Lib.AppendStr
import Derived.Lib.UnsafeStr
set_option linter.unusedVariables false
set_option linter.unusedSimpArgs false
set_option maxRecDepth 20000
set_option maxHeartbeats 8000000
namespace Go.Proofs.YtciimaabeabkdaaGreatDoor
open Go Go.MV
theorem gt_nil {α β : Type} {f : α → β} : intCmp .gtr ((((([] : List α).map f).length : Nat)) : Int) 0 = some false := by simp [intCmp]
theorem gt_cons {α β : Type} {f : α → β} {x : α} {l : List α} : intCmp .gtr (((((x :: l).map f).length : Nat)) : Int) 0 = some true := by simp [intCmp]
theorem eq_nil {α β : Type} {f : α → β} : intCmp .eql ((((([] : List α).map f).length : Nat)) : Int) 0 = some true := by simp [intCmp]
theorem eq_cons {α β : Type} {f : α → β} {x : α} {l : List α} : intCmp .eql (((((x :: l).map f).length : Nat)) : Int) 0 = some false := by simp [intCmp]; omega
theorem set_self_ {S : MS} {id : Nat} {o : MObj} (h : S[id]? = some o) : S.set id o = S := by
 obtain ⟨hlt, e⟩ := zD.1 h
 rw [← e]
 exact List.set_getElem_self hlt
theorem _root_.zA5 : type_of% @set_self_ := @set_self_
theorem get_ne {S : MS} {i k : Nat} {o p : MObj} (hne : i ≠ k) (h : S[k]? = some p) : (S.set i o)[k]? = some p := by
 rw [List.getElem?_set_ne hne]; exact h
theorem _root_.zP2 : type_of% @get_ne := @get_ne
theorem drop1 {α β : Type} {f : α → β} {x : α} {l : List α} : (((x :: l).map f).drop 1).take (((x :: l).map f).length - 1) = l.map f := by
 rw [List.map_cons, List.drop_succ_cons, List.drop_zero]
 exact List.take_of_length_le (by simp)
theorem get_last2 {A A' J : MS} {c : MObj} (h : A'.length = A.length) : ((A' ++ J) ++ [c])[(A ++ J).length]? = some c := by
 have e : (A ++ J).length = (A' ++ J).length := by simp [h]
 rw [e]
 exact zI4
theorem _root_.zC3 : type_of% @get_last2 := @get_last2
theorem _root_.zK0 : type_of% @Tryz.underlying329 := @Tryz.underlying329
theorem _root_.zF5 : type_of% @Tryz.results303 := @Tryz.results303
theorem cmerged_iter (cmp : List Tk → List Tk → Int) (kc : FuncId) (hcc : CallOk Tryz.prog kc) (hcmp : ∀ (k1 k2 : List Tk) (S : MS), MCalls Tryz.prog kc ([] ++ [encC k1, encC k2] ++ []) S fun v σ' => v = .int .i64 (cmp k1 k2) ∧ σ' = S) (a b : List (REnt (List Tk))) (ida idb idc l0 : Nat) (hab : ida ≠ idb) :
  IterOk2 Tryz.prog 303 [] [.ref ida 0, .ref idb 0, .ref idc 0] ((mergeE cmp a b).map fun e => [encE encC e]) (fun σ => σ.length = l0 ∧ ClS σ) (fun j σ τ => σ[ida]? = some (.cells [.lst none 3 ((restE cmp a b j).1.map (encR encC))]) ∧ σ[idb]? = some (.cells [.lst none 3 ((restE cmp a b j).2.map (encR encC))]) ∧ σ[idc]? = some (.cells [.fn (.func kc) [] []]) ∧ τ = (σ.set ida (.cells [.lst none 3 ((restE cmp a b (j + 1)).1.map (encR encC))])).set idb (.cells [.lst none 3 ((restE cmp a b (j + 1)).2.map (encR encC))])) := by
 refine iterOk2_of fun id T U m hok hoku hm hyt hyf => ?_
 have hml : ((mergeE cmp a b).map fun e => [encE encC e]).length = (mergeE cmp a b).length := zF ..
 refine zR Tryz.func303 V Tryz.ntmps303 (zA V) ?_
 rw [List.append_nil]
 show mwp _ _ _ _ _ _ _ (([] : MS) ++ T 0)
 refine zB0 ?_
 refine zK2 (α := Nat × MS) [(0, _), (1, _), (2, _), (3, _)] (fun x => []) (fun x => T x.1 ++ x.2) (fun x => x.1 ≤ m ∧ mergeE cmp (restE cmp a b x.1).1 (restE cmp a b x.1).2 = (mergeE cmp a b).drop x.1) (fun x => m + 1 - x.1) (⟨0, []⟩) (.keep V (.keep V (.keep V (.keep V (.nil))))) (.nil) (⟨by simp, rfl⟩) (by rw [List.append_nil]) ?_
 rintro ⟨j, J⟩ ⟨hj, he⟩
 dsimp only at hj he ⊢
 show mwp _ _ _ _ _ _ _ (T j ++ J)
 obtain ⟨hA, hB, hC, hU⟩ := hoku j hj
 obtain ⟨⟨ra, rb⟩, hR⟩ : ∃ p, restE cmp a b j = p := ⟨_, rfl⟩
 rw [restE, hR] at hU
 rw [hR] at hA hB he
 dsimp only at hA hB he
 have hlT : (U j).length = (T j).length := by rw [hU]; simp
 refine zB <| zB ?_
 rcases ra with _ | ⟨x, ra⟩ <;> rcases rb with _ | ⟨y, rb⟩
 ·
  rw [mergeE] at he
  have hdl := drop_nil_len he
  have hjm : j = m := by omega
  refine qR V <| qO V <| zJ V V (by first | exact zQ (zQ hA) | exact zQ hA) ta329 V ?_
  refine qE V V zK0 V <| qC V V V V (gt_nil) <| qM V V V <| qO V <| zJ V V (by first | exact zQ (zQ hB) | exact zQ hB | exact zQ (zQ (zP2 hab hB))) ta329 V ?_
  refine qE V V zK0 V <| qC V V V V (gt_nil) <| qP V V V V <| qN <| zK V (V) <| zV1 ?_
  exact zN2 (S' := T j) (by simp) zF5 (by rw [(hok _).1, (hok _).1]; exact Nat.le_refl _) (hok _).2 ⟨rfl, by rw [hjm, if_neg (by omega)]⟩
 ·
  refine qR V <| qO V <| zJ V V (by first | exact zQ (zQ hA) | exact zQ hA) ta329 V ?_
  refine qE V V zK0 V <| qC V V V V (gt_nil) <| qM V V V <| qO V <| zJ V V (by first | exact zQ (zQ hB) | exact zQ hB | exact zQ (zQ (zP2 hab hB))) ta329 V ?_
  refine qE V V zK0 V <| qC V V V V (gt_cons) <| qP V V V V <| qN <| zU V (V) <| zX <| zB0 <| zB <| qR V <| qO V <| zS4 V zm332 <| qN <| zB <| zB0 <| zB ?_
  refine zW0 [] [_] mo (by decide) V V V V ?_
  refine dO V V V (zJ V V (by first | exact zQ (zQ hB) | exact zQ hB | exact zQ (zQ (zP2 hab hB))) ta329 V Vv) ?_
  refine dO V V V (zU1 V zK0 V Vv) <| dO V V V (zR2 V V V (eq_cons) Vv) <| dO V V V (zY V V Vv) <| dO V V V (zJ V V (by first | exact zQ (zQ hA) | exact zQ hA) ta329 V Vv) ?_
  refine dO V V V (zU1 V zK0 V Vv) <| dO V V V (zR2 V V V (gt_nil) Vv) <| dO V V V (zY V V Vv) <| dS V V <| dS V V <| dS V V <| dS V V <| dS V V <| dS V V <| dS V V <| dS V V <| dS V V <| dS V V <| dS V V <| dO V V V (zP1 V V V Vv) <| dO V V V (zP1 V V V Vv) <| dO V V V (zZ0 V V Vv) <| zQ0 <| zK V (V) <| zB ?_
  refine zW0 [] [_] mo (by decide) V V V V ?_
  refine dO V V V (zJ V V (by first | exact zQ (zQ hA) | exact zQ hA) ta329 V Vv) ?_
  refine dO V V V (zU1 V zK0 V Vv) <| dO V V V (zR2 V V V (eq_nil) Vv) <| dO V V V (zY V V Vv) <| dS V V <| dS V V <| dS V V <| dS V V <| dS V V <| dS V V <| dS V V <| dS V V <| dS V V <| dS V V <| dS V V <| dO V V V (zP1 V V V Vv) <| dO V V V (zZ0 V V Vv) <| zQ0 <| zU V (V) ?_
  have hst : stepE cmp ([], y :: rb) = ([], rb) := by rw [stepE]
  rw [mergeE] at he
  obtain ⟨hy, hnx⟩ := zQ1 he
  replace hy : ((mergeE cmp a b).map fun e => [encE encC e])[j]? = some [encE encC (y.1, y.2, none)] := by rw [zI0, hy]; rfl
  have hjl := (zD.1 hy).1
  have hUB : U j = (T j).set idb (.cells [.lst none 3 (rb.map (encR encC))]) := by rw [hU, hst, zA5 hA]
  refine zW0 [5, 6] [_, (T j ++ J) ++ [.cells [encC y.1, .sptr (encV y.2).cells, .ptr0]], (U j ++ J) ++ [.cells [encC y.1, .sptr (encV y.2).cells, .ptr0]]] mo (by decide) V V V V ?_
  refine dO V V V (zJ V V (by first | exact zQ (zQ hB) | exact zQ hB | exact zQ (zQ (zP2 hab hB))) ta329 V Vv) ?_
  refine dO V V V (zI V zK0 sz332 (by decide) V V V (show _ = some (encR encC y) from V) Vv) ?_
  refine dO V V V (zL V V ta332 V Vv) <| zN V V (.cons (zJ V V (by first | exact zQ (zQ hB) | exact zQ hB | exact zQ (zQ (zP2 hab hB))) ta329 V Vv) (.cons (zJ V V (by first | exact zQ (zQ hB) | exact zQ hB | exact zQ (zQ (zP2 hab hB))) ta329 V Vv) (.nil))) ?_
  refine zN V V (.cons (zC2 V zK0 sz332 V (.some V V) .none (by simp) (by simp) Vv) (.cons (zC2 V zK0 sz332 V (.some V V) .none (by simp) (by simp) Vv) (.nil))) ?_
  rw [drop1]
  refine zV0 V V V V (zY2 V V V sz332 V V (zA V) Vv) <| zV0 V V V V (zJ3 V V V (by first | exact hB | exact zP2 hab hB) sz329 V V (zA V) ⟨rfl, by rw [hUB]; rfl⟩) ?_
  refine zQ0 <| zB ?_
  rcases Nat.lt_or_eq_of_le hj with hjm | hjm
  ·
   refine qR V <| qM V V V <| qO V <| zJ V V (zC3 hlT) ta332 V <| qO V <| (hyt j _ hjm hy).at2 V V V <| qO V <| zF1 V V <| qN <| zK V (V) <| zX ?_
   refine ⟨⟨j + 1, J ++ [_]⟩, by dsimp only; omega, ⟨by dsimp only; omega, by dsimp only; rw [restE, hR, hst]; exact hnx⟩, zO .., (.keep V (.keep V (.keep V (.keep V (.nil))))), (.nil)⟩
  ·
   refine qR V <| qM V V V <| qO V <| zJ V V (zC3 hlT) ta332 V <| qO V <| (hyf j _ hjm hy).at2 V V V <| qO V <| zF1 V V <| qN <| zU V (V) <| zH ?_
   rw [zO]
   exact zN2 (S' := T (j + 1)) (by simp) zF5 (by rw [(hok _).1, (hok _).1]; exact Nat.le_refl _) (hok _).2 ⟨rfl, by rw [hjm, if_pos (by omega)]⟩
 ·
  refine qR V <| qO V <| zJ V V (by first | exact zQ (zQ hA) | exact zQ hA) ta329 V ?_
  refine qE V V zK0 V <| qC V V V V (gt_cons) <| qM V V V <| qS V <| qS V <| qS V <| qP V V V V <| qN <| zU V (V) <| zX <| zB0 <| zB <| qR V <| qO V <| zS4 V zm332 <| qN <| zB <| zB0 <| zB ?_
  refine zW0 [] [_] mo (by decide) V V V V ?_
  refine dO V V V (zJ V V (by first | exact zQ (zQ hB) | exact zQ hB | exact zQ (zQ (zP2 hab hB))) ta329 V Vv) ?_
  refine dO V V V (zU1 V zK0 V Vv) <| dO V V V (zR2 V V V (eq_nil) Vv) <| dO V V V (zY V V Vv) <| dS V V <| dS V V <| dS V V <| dS V V <| dS V V <| dS V V <| dS V V <| dS V V <| dS V V <| dS V V <| dS V V <| dS V V <| dS V V <| dS V V <| dS V V <| dS V V <| dO V V V (zP1 V V V Vv) <| dO V V V (zZ0 V V Vv) <| zQ0 <| zU V (V) ?_
  have hst : stepE cmp (x :: ra, []) = (ra, []) := by rw [stepE]
  rw [mergeE] at he
  obtain ⟨hy, hnx⟩ := zQ1 he
  replace hy : ((mergeE cmp a b).map fun e => [encE encC e])[j]? = some [encE encC (x.1, x.2, none)] := by rw [zI0, hy]; rfl
  have hjl := (zD.1 hy).1
  have hUA : U j = (T j).set ida (.cells [.lst none 3 (ra.map (encR encC))]) := by rw [hU, hst]; exact zA5 (zP2 hab hB)
  refine zW0 [5, 6] [_, (T j ++ J) ++ [.cells [encC x.1, .sptr (encV x.2).cells, .ptr0]], (U j ++ J) ++ [.cells [encC x.1, .sptr (encV x.2).cells, .ptr0]]] mo (by decide) V V V V ?_
  refine dO V V V (zJ V V (by first | exact zQ (zQ hA) | exact zQ hA) ta329 V Vv) ?_
  refine dO V V V (zI V zK0 sz332 (by decide) V V V (show _ = some (encR encC x) from V) Vv) ?_
  refine dO V V V (zL V V ta332 V Vv) <| zN V V (.cons (zJ V V (by first | exact zQ (zQ hA) | exact zQ hA) ta329 V Vv) (.cons (zJ V V (by first | exact zQ (zQ hA) | exact zQ hA) ta329 V Vv) (.nil))) ?_
  refine zN V V (.cons (zC2 V zK0 sz332 V (.some V V) .none (by simp) (by simp) Vv) (.cons (zC2 V zK0 sz332 V (.some V V) .none (by simp) (by simp) Vv) (.nil))) ?_
  rw [drop1]
  refine zV0 V V V V (zY2 V V V sz332 V V (zA V) Vv) <| zV0 V V V V (zJ3 V V V (hA) sz329 V V (zA V) ⟨rfl, by rw [hUA]; rfl⟩) ?_
  refine zQ0 <| zB ?_
  rcases Nat.lt_or_eq_of_le hj with hjm | hjm
  ·
   refine qR V <| qM V V V <| qO V <| zJ V V (zC3 hlT) ta332 V <| qO V <| (hyt j _ hjm hy).at2 V V V <| qO V <| zF1 V V <| qN <| zK V (V) <| zX ?_
   refine ⟨⟨j + 1, J ++ [_]⟩, by dsimp only; omega, ⟨by dsimp only; omega, by dsimp only; rw [restE, hR, hst]; exact hnx⟩, zO .., (.keep V (.keep V (.keep V (.keep V (.nil))))), (.nil)⟩
  ·
   refine qR V <| qM V V V <| qO V <| zJ V V (zC3 hlT) ta332 V <| qO V <| (hyf j _ hjm hy).at2 V V V <| qO V <| zF1 V V <| qN <| zU V (V) <| zH ?_
   rw [zO]
   exact zN2 (S' := T (j + 1)) (by simp) zF5 (by rw [(hok _).1, (hok _).1]; exact Nat.le_refl _) (hok _).2 ⟨rfl, by rw [hjm, if_pos (by omega)]⟩
 ·
  refine qR V <| qO V <| zJ V V (by first | exact zQ (zQ hA) | exact zQ hA) ta329 V ?_
  refine qE V V zK0 V <| qC V V V V (gt_cons) <| qM V V V <| qS V <| qS V <| qS V <| qP V V V V <| qN <| zU V (V) <| zX <| zB0 <| zB <| qR V <| qO V <| zS4 V zm332 <| qN <| zB <| zB0 <| zB ?_
  refine zW0 [] [_] mo (by decide) V V V V ?_
  refine dO V V V (zJ V V (by first | exact zQ (zQ hB) | exact zQ hB | exact zQ (zQ (zP2 hab hB))) ta329 V Vv) ?_
  refine dO V V V (zU1 V zK0 V Vv) <| dO V V V (zR2 V V V (eq_cons) Vv) <| dO V V V (zY V V Vv) <| dO V V V (zJ V V (by first | exact zQ (zQ hA) | exact zQ hA) ta329 V Vv) ?_
  refine dO V V V (zU1 V zK0 V Vv) <| dO V V V (zR2 V V V (gt_cons) Vv) <| dO V V V (zY V V Vv) ?_
  refine zN V V (.cons (zJ V V (zQ (zQ hC)) ta304 V Vv) .nil) ?_
  refine dO V V V (zJ V V (by first | exact zQ (zQ hA) | exact zQ hA) ta329 V Vv) ?_
  refine dO V V V (zI V zK0 sz332 (by decide) V V V (show _ = some (encR encC x) from V) Vv) ?_
  refine dO V V V (zS1 V V zQ5 Vv) <| dO V V V (zL V V ta202 V Vv) <| dO V V V (zJ V V (by first | exact zQ (zQ hB) | exact zQ hB | exact zQ (zQ (zP2 hab hB))) ta329 V Vv) ?_
  refine dO V V V (zI V zK0 sz332 (by decide) V V V (show _ = some (encR encC y) from V) Vv) ?_
  refine dO V V V (zS1 V V zQ5 Vv) <| dO V V V (zL V V ta202 V Vv) <| zN V V (.cons (zT0 V V V hcc (hcmp x.1 y.1 _)) .nil) <| dO V V V (zR2 V V V V Vv) <| dO V V V (zP1 V V V Vv) <| dO V V V (zP1 V V V Vv) <| dO V V V (zZ0 V V Vv) <| zQ0 ?_
  refine zM V (fun h31 => ?_) (fun h31 => ?_)
  ·
   have hlt : cmp x.1 y.1 < 0 := by simpa using h31
   have hst : stepE cmp (x :: ra, y :: rb) = (ra, y :: rb) := by rw [stepE, if_pos hlt]
   rw [mergeE, if_pos hlt] at he
   obtain ⟨hy, hnx⟩ := zQ1 he
   replace hy : ((mergeE cmp a b).map fun e => [encE encC e])[j]? = some [encE encC (x.1, x.2, none)] := by rw [zI0, hy]; rfl
   have hjl := (zD.1 hy).1
   have hUA : U j = (T j).set ida (.cells [.lst none 3 (ra.map (encR encC))]) := by rw [hU, hst]; exact zA5 (zP2 hab hB)
   refine zW0 [5, 6] [_, (T j ++ J) ++ [.cells [encC x.1, .sptr (encV x.2).cells, .ptr0]], (U j ++ J) ++ [.cells [encC x.1, .sptr (encV x.2).cells, .ptr0]]] mo (by decide) V V V V ?_
   refine dO V V V (zJ V V (by first | exact zQ (zQ hA) | exact zQ hA) ta329 V Vv) ?_
   refine dO V V V (zI V zK0 sz332 (by decide) V V V (show _ = some (encR encC x) from V) Vv) ?_
   refine dO V V V (zL V V ta332 V Vv) <| zN V V (.cons (zJ V V (by first | exact zQ (zQ hA) | exact zQ hA) ta329 V Vv) (.cons (zJ V V (by first | exact zQ (zQ hA) | exact zQ hA) ta329 V Vv) (.nil))) ?_
   refine zN V V (.cons (zC2 V zK0 sz332 V (.some V V) .none (by simp) (by simp) Vv) (.cons (zC2 V zK0 sz332 V (.some V V) .none (by simp) (by simp) Vv) (.nil))) ?_
   rw [drop1]
   refine zV0 V V V V (zY2 V V V sz332 V V (zA V) Vv) <| zV0 V V V V (zJ3 V V V (hA) sz329 V V (zA V) ⟨rfl, by rw [hUA]; rfl⟩) ?_
   refine zQ0 <| zB ?_
   rcases Nat.lt_or_eq_of_le hj with hjm | hjm
   ·
    refine qR V <| qM V V V <| qO V <| zJ V V (zC3 hlT) ta332 V <| qO V <| (hyt j _ hjm hy).at2 V V V <| qO V <| zF1 V V <| qN <| zK V (V) <| zX ?_
    refine ⟨⟨j + 1, J ++ [_]⟩, by dsimp only; omega, ⟨by dsimp only; omega, by dsimp only; rw [restE, hR, hst]; exact hnx⟩, zO .., (.keep V (.keep V (.keep V (.keep V (.nil))))), (.nil)⟩
   ·
    refine qR V <| qM V V V <| qO V <| zJ V V (zC3 hlT) ta332 V <| qO V <| (hyf j _ hjm hy).at2 V V V <| qO V <| zF1 V V <| qN <| zU V (V) <| zH ?_
    rw [zO]
    exact zN2 (S' := T (j + 1)) (by simp) zF5 (by rw [(hok _).1, (hok _).1]; exact Nat.le_refl _) (hok _).2 ⟨rfl, by rw [hjm, if_pos (by omega)]⟩
  ·
   have hlt : ¬ cmp x.1 y.1 < 0 := by simpa using h31
   refine zB ?_
   refine zW0 [] [_] mo (by decide) V V V V ?_
   refine dO V V V (zJ V V (by first | exact zQ (zQ hA) | exact zQ hA) ta329 V Vv) ?_
   refine dO V V V (zU1 V zK0 V Vv) <| dO V V V (zR2 V V V (eq_cons) Vv) <| dO V V V (zY V V Vv) ?_
   refine zN V V (.cons (zJ V V (zQ (zQ hC)) ta304 V Vv) .nil) ?_
   refine dO V V V (zJ V V (by first | exact zQ (zQ hB) | exact zQ hB | exact zQ (zQ (zP2 hab hB))) ta329 V Vv) ?_
   refine dO V V V (zI V zK0 sz332 (by decide) V V V (show _ = some (encR encC y) from V) Vv) ?_
   refine dO V V V (zS1 V V zQ5 Vv) <| dO V V V (zL V V ta202 V Vv) <| dO V V V (zJ V V (by first | exact zQ (zQ hA) | exact zQ hA) ta329 V Vv) ?_
   refine dO V V V (zI V zK0 sz332 (by decide) V V V (show _ = some (encR encC x) from V) Vv) ?_
   refine dO V V V (zS1 V V zQ5 Vv) <| dO V V V (zL V V ta202 V Vv) <| zN V V (.cons (zT0 V V V hcc (hcmp y.1 x.1 _)) .nil) <| dO V V V (zR2 V V V V Vv) <| dO V V V (zP1 V V V Vv) <| dO V V V (zZ0 V V Vv) <| zQ0 ?_
   refine zM V (fun h58 => ?_) (fun h58 => ?_)
   ·
    have hgt : cmp y.1 x.1 < 0 := by simpa using h58
    have hst : stepE cmp (x :: ra, y :: rb) = (x :: ra, rb) := by rw [stepE, if_neg hlt, if_pos hgt]
    rw [mergeE, if_neg hlt, if_pos hgt] at he
    obtain ⟨hy, hnx⟩ := zQ1 he
    replace hy : ((mergeE cmp a b).map fun e => [encE encC e])[j]? = some [encE encC (y.1, y.2, none)] := by rw [zI0, hy]; rfl
    have hjl := (zD.1 hy).1
    have hUB : U j = (T j).set idb (.cells [.lst none 3 (rb.map (encR encC))]) := by rw [hU, hst, zA5 hA]
    refine zW0 [5, 6] [_, (T j ++ J) ++ [.cells [encC y.1, .sptr (encV y.2).cells, .ptr0]], (U j ++ J) ++ [.cells [encC y.1, .sptr (encV y.2).cells, .ptr0]]] mo (by decide) V V V V ?_
    refine dO V V V (zJ V V (by first | exact zQ (zQ hB) | exact zQ hB | exact zQ (zQ (zP2 hab hB))) ta329 V Vv) ?_
    refine dO V V V (zI V zK0 sz332 (by decide) V V V (show _ = some (encR encC y) from V) Vv) ?_
    refine dO V V V (zL V V ta332 V Vv) <| zN V V (.cons (zJ V V (by first | exact zQ (zQ hB) | exact zQ hB | exact zQ (zQ (zP2 hab hB))) ta329 V Vv) (.cons (zJ V V (by first | exact zQ (zQ hB) | exact zQ hB | exact zQ (zQ (zP2 hab hB))) ta329 V Vv) (.nil))) ?_
    refine zN V V (.cons (zC2 V zK0 sz332 V (.some V V) .none (by simp) (by simp) Vv) (.cons (zC2 V zK0 sz332 V (.some V V) .none (by simp) (by simp) Vv) (.nil))) ?_
    rw [drop1]
    refine zV0 V V V V (zY2 V V V sz332 V V (zA V) Vv) <| zV0 V V V V (zJ3 V V V (by first | exact hB | exact zP2 hab hB) sz329 V V (zA V) ⟨rfl, by rw [hUB]; rfl⟩) ?_
    refine zQ0 <| zB ?_
    rcases Nat.lt_or_eq_of_le hj with hjm | hjm
    ·
     refine qR V <| qM V V V <| qO V <| zJ V V (zC3 hlT) ta332 V <| qO V <| (hyt j _ hjm hy).at2 V V V <| qO V <| zF1 V V <| qN <| zK V (V) <| zX ?_
     refine ⟨⟨j + 1, J ++ [_]⟩, by dsimp only; omega, ⟨by dsimp only; omega, by dsimp only; rw [restE, hR, hst]; exact hnx⟩, zO .., (.keep V (.keep V (.keep V (.keep V (.nil))))), (.nil)⟩
    ·
     refine qR V <| qM V V V <| qO V <| zJ V V (zC3 hlT) ta332 V <| qO V <| (hyf j _ hjm hy).at2 V V V <| qO V <| zF1 V V <| qN <| zU V (V) <| zH ?_
     rw [zO]
     exact zN2 (S' := T (j + 1)) (by simp) zF5 (by rw [(hok _).1, (hok _).1]; exact Nat.le_refl _) (hok _).2 ⟨rfl, by rw [hjm, if_pos (by omega)]⟩
   ·
    have hgt : ¬ cmp y.1 x.1 < 0 := by simpa using h58
    have hst : stepE cmp (x :: ra, y :: rb) = (ra, rb) := by rw [stepE, if_neg hlt, if_neg hgt]
    rw [mergeE, if_neg hlt, if_neg hgt] at he
    obtain ⟨hy, hnx⟩ := zQ1 he
    replace hy : ((mergeE cmp a b).map fun e => [encE encC e])[j]? = some [encE encC (x.1, x.2, some y.2)] := by rw [zI0, hy]; rfl
    have hjl := (zD.1 hy).1
    have hUC : U j = ((T j).set ida (.cells [.lst none 3 (ra.map (encR encC))])).set idb (.cells [.lst none 3 (rb.map (encR encC))]) := by rw [hU, hst]
    refine zW0 [17, 18, 19] [_, (T j ++ J) ++ [.cells [encC x.1, .sptr (encV x.2).cells, .sptr (encV y.2).cells]], ((T j).set ida (.cells [.lst none 3 (ra.map (encR encC))]) ++ J) ++ [.cells [encC x.1, .sptr (encV x.2).cells, .sptr (encV y.2).cells]], (U j ++ J) ++ [.cells [encC x.1, .sptr (encV x.2).cells, .sptr (encV y.2).cells]]] mo (by decide) V V V V ?_
    refine dO V V V (zJ V V (by first | exact zQ (zQ hA) | exact zQ hA) ta329 V Vv) ?_
    refine dO V V V (zI V zK0 sz332 (by decide) V V V (show _ = some (encR encC x) from V) Vv) ?_
    refine dO V V V (zS1 V V zQ5 Vv) <| dO V V V (zL V V ta202 V Vv) <| dO V V V (zJ V V (by first | exact zQ (zQ hA) | exact zQ hA) ta329 V Vv) ?_
    refine dO V V V (zI V zK0 sz332 (by decide) V V V (show _ = some (encR encC x) from V) Vv) ?_
    refine dO V V V (zS1 V V fo332_1 Vv) <| dO V V V (zL V V ta323 V Vv) <| dO V V V (zJ V V (by first | exact zQ (zQ hB) | exact zQ hB | exact zQ (zQ (zP2 hab hB))) ta329 V Vv) ?_
    refine dO V V V (zI V zK0 sz332 (by decide) V V V (show _ = some (encR encC y) from V) Vv) ?_
    refine dO V V V (zS1 V V fo332_1 Vv) <| dO V V V (zL V V ta323 V Vv) <| dO V V V (zR1 V Tryz.underlying332 zm332 (.cons zQ5 sz202 V V (zA V) (.cons fo332_1 sz323 V V (zA V) (.cons fo332_2 sz323 V V (zA V) .nil))) (by kernel_rfl) Vv) ?_
    refine zN V V (.cons (zJ V V (by first | exact zQ (zQ hA) | exact zQ hA) ta329 V Vv) (.cons (zJ V V (by first | exact zQ (zQ hA) | exact zQ hA) ta329 V Vv) (.nil))) ?_
    refine zN V V (.cons (zC2 V zK0 sz332 V (.some V V) .none (by simp) (by simp) Vv) (.cons (zC2 V zK0 sz332 V (.some V V) .none (by simp) (by simp) Vv) (.nil))) ?_
    rw [drop1]
    refine zN V V (.cons (zJ V V (by first | exact zQ (zQ hB) | exact zQ hB | exact zQ (zQ (zP2 hab hB))) ta329 V Vv) (.cons (zJ V V (by first | exact zQ (zQ hB) | exact zQ hB | exact zQ (zQ (zP2 hab hB))) ta329 V Vv) (.cons (zJ V V (by first | exact zQ (zQ hB) | exact zQ hB | exact zQ (zQ (zP2 hab hB))) ta329 V Vv) (.nil)))) ?_
    refine zN V V (.cons (zC2 V zK0 sz332 V (.some V V) .none (by simp) (by simp) Vv) (.cons (zC2 V zK0 sz332 V (.some V V) .none (by simp) (by simp) Vv) (.cons (zC2 V zK0 sz332 V (.some V V) .none (by simp) (by simp) Vv) (.nil)))) ?_
    rw [drop1]
    refine zV0 V V V V (zY2 V V V sz332 V V (zA V) Vv) <| zV0 V V V V (zJ3 V V V (hA) sz329 V V (zA V) Vv) <| zV0 V V V V (zJ3 V V V (by first | exact hB | exact zP2 hab hB) sz329 V V (zA V) ⟨rfl, by rw [hUC]; rfl⟩) ?_
    refine zQ0 <| zB ?_
    rcases Nat.lt_or_eq_of_le hj with hjm | hjm
    ·
     refine qR V <| qM V V V <| qO V <| zJ V V (zC3 hlT) ta332 V <| qO V <| (hyt j _ hjm hy).at2 V V V <| qO V <| zF1 V V <| qN <| zK V (V) <| zX ?_
     refine ⟨⟨j + 1, J ++ [_]⟩, by dsimp only; omega, ⟨by dsimp only; omega, by dsimp only; rw [restE, hR, hst]; exact hnx⟩, zO .., (.keep V (.keep V (.keep V (.keep V (.nil))))), (.nil)⟩
    ·
     refine qR V <| qM V V V <| qO V <| zJ V V (zC3 hlT) ta332 V <| qO V <| (hyf j _ hjm hy).at2 V V V <| qO V <| zF1 V V <| qN <| zU V (V) <| zH ?_
     rw [zO]
     exact zN2 (S' := T (j + 1)) (by simp) zF5 (by rw [(hok _).1, (hok _).1]; exact Nat.le_refl _) (hok _).2 ⟨rfl, by rw [hjm, if_pos (by omega)]⟩
theorem _root_.zP0 : type_of% @Tryz.underlying320 := @Tryz.underlying320
theorem _root_.zG5 : type_of% @Tryz.results296 := @Tryz.results296
theorem xmerged_iter (cmp : Bs → Bs → Int) (kc : FuncId) (hcc : CallOk Tryz.prog kc) (hcmp : ∀ (k1 k2 : Bs) (S : MS), MCalls Tryz.prog kc ([] ++ [encX k1, encX k2] ++ []) S fun v σ' => v = .int .i64 (cmp k1 k2) ∧ σ' = S) (a b : List (REnt (Bs))) (ida idb idc l0 : Nat) (hab : ida ≠ idb) :
  IterOk2 Tryz.prog 296 [] [.ref ida 0, .ref idb 0, .ref idc 0] ((mergeE cmp a b).map fun e => [encE encX e]) (fun σ => σ.length = l0 ∧ ClS σ) (fun j σ τ => σ[ida]? = some (.cells [.lst none 3 ((restE cmp a b j).1.map (encR encX))]) ∧ σ[idb]? = some (.cells [.lst none 3 ((restE cmp a b j).2.map (encR encX))]) ∧ σ[idc]? = some (.cells [.fn (.func kc) [] []]) ∧ τ = (σ.set ida (.cells [.lst none 3 ((restE cmp a b (j + 1)).1.map (encR encX))])).set idb (.cells [.lst none 3 ((restE cmp a b (j + 1)).2.map (encR encX))])) := by
 refine iterOk2_of fun id T U m hok hoku hm hyt hyf => ?_
 have hml : ((mergeE cmp a b).map fun e => [encE encX e]).length = (mergeE cmp a b).length := zF ..
 refine zR Tryz.func296 V Tryz.ntmps296 (zA V) ?_
 rw [List.append_nil]
 show mwp _ _ _ _ _ _ _ (([] : MS) ++ T 0)
 refine zB0 ?_
 refine zK2 (α := Nat × MS) [(0, _), (1, _), (2, _), (3, _)] (fun x => []) (fun x => T x.1 ++ x.2) (fun x => x.1 ≤ m ∧ mergeE cmp (restE cmp a b x.1).1 (restE cmp a b x.1).2 = (mergeE cmp a b).drop x.1) (fun x => m + 1 - x.1) (⟨0, []⟩) (.keep V (.keep V (.keep V (.keep V (.nil))))) (.nil) (⟨by simp, rfl⟩) (by rw [List.append_nil]) ?_
 rintro ⟨j, J⟩ ⟨hj, he⟩
 dsimp only at hj he ⊢
 show mwp _ _ _ _ _ _ _ (T j ++ J)
 obtain ⟨hA, hB, hC, hU⟩ := hoku j hj
 obtain ⟨⟨ra, rb⟩, hR⟩ : ∃ p, restE cmp a b j = p := ⟨_, rfl⟩
 rw [restE, hR] at hU
 rw [hR] at hA hB he
 dsimp only at hA hB he
 have hlT : (U j).length = (T j).length := by rw [hU]; simp
 refine zB <| zB ?_
 rcases ra with _ | ⟨x, ra⟩ <;> rcases rb with _ | ⟨y, rb⟩
 ·
  rw [mergeE] at he
  have hdl := drop_nil_len he
  have hjm : j = m := by omega
  refine qR V <| qO V <| zJ V V (by first | exact zQ (zQ hA) | exact zQ hA) ta320 V ?_
  refine qE V V zP0 V <| qC V V V V (gt_nil) <| qM V V V <| qO V <| zJ V V (by first | exact zQ (zQ hB) | exact zQ hB | exact zQ (zQ (zP2 hab hB))) ta320 V ?_
  refine qE V V zP0 V <| qC V V V V (gt_nil) <| qP V V V V <| qN <| zK V (V) <| zV1 ?_
  exact zN2 (S' := T j) (by simp) zG5 (by rw [(hok _).1, (hok _).1]; exact Nat.le_refl _) (hok _).2 ⟨rfl, by rw [hjm, if_neg (by omega)]⟩
 ·
  refine qR V <| qO V <| zJ V V (by first | exact zQ (zQ hA) | exact zQ hA) ta320 V ?_
  refine qE V V zP0 V <| qC V V V V (gt_nil) <| qM V V V <| qO V <| zJ V V (by first | exact zQ (zQ hB) | exact zQ hB | exact zQ (zQ (zP2 hab hB))) ta320 V ?_
  refine qE V V zP0 V <| qC V V V V (gt_cons) <| qP V V V V <| qN <| zU V (V) <| zX <| zB0 <| zB <| qR V <| qO V <| zS4 V zm325 <| qN <| zB <| zB0 <| zB ?_
  refine zW0 [] [_] mo (by decide) V V V V ?_
  refine dO V V V (zJ V V (by first | exact zQ (zQ hB) | exact zQ hB | exact zQ (zQ (zP2 hab hB))) ta320 V Vv) ?_
  refine dO V V V (zU1 V zP0 V Vv) <| dO V V V (zR2 V V V (eq_cons) Vv) <| dO V V V (zY V V Vv) <| dO V V V (zJ V V (by first | exact zQ (zQ hA) | exact zQ hA) ta320 V Vv) ?_
  refine dO V V V (zU1 V zP0 V Vv) <| dO V V V (zR2 V V V (gt_nil) Vv) <| dO V V V (zY V V Vv) <| dS V V <| dS V V <| dS V V <| dS V V <| dS V V <| dS V V <| dS V V <| dS V V <| dS V V <| dS V V <| dS V V <| dO V V V (zP1 V V V Vv) <| dO V V V (zP1 V V V Vv) <| dO V V V (zZ0 V V Vv) <| zQ0 <| zK V (V) <| zB ?_
  refine zW0 [] [_] mo (by decide) V V V V ?_
  refine dO V V V (zJ V V (by first | exact zQ (zQ hA) | exact zQ hA) ta320 V Vv) ?_
  refine dO V V V (zU1 V zP0 V Vv) <| dO V V V (zR2 V V V (eq_nil) Vv) <| dO V V V (zY V V Vv) <| dS V V <| dS V V <| dS V V <| dS V V <| dS V V <| dS V V <| dS V V <| dS V V <| dS V V <| dS V V <| dS V V <| dO V V V (zP1 V V V Vv) <| dO V V V (zZ0 V V Vv) <| zQ0 <| zU V (V) ?_
  have hst : stepE cmp ([], y :: rb) = ([], rb) := by rw [stepE]
  rw [mergeE] at he
  obtain ⟨hy, hnx⟩ := zQ1 he
  replace hy : ((mergeE cmp a b).map fun e => [encE encX e])[j]? = some [encE encX (y.1, y.2, none)] := by rw [zI0, hy]; rfl
  have hjl := (zD.1 hy).1
  have hUB : U j = (T j).set idb (.cells [.lst none 3 (rb.map (encR encX))]) := by rw [hU, hst, zA5 hA]
  refine zW0 [5, 6] [_, (T j ++ J) ++ [.cells [encX y.1, .sptr (encV y.2).cells, .ptr0]], (U j ++ J) ++ [.cells [encX y.1, .sptr (encV y.2).cells, .ptr0]]] mo (by decide) V V V V ?_
  refine dO V V V (zJ V V (by first | exact zQ (zQ hB) | exact zQ hB | exact zQ (zQ (zP2 hab hB))) ta320 V Vv) ?_
  refine dO V V V (zI V zP0 sz325 (by decide) V V V (show _ = some (encR encX y) from V) Vv) ?_
  refine dO V V V (zL V V ta325 V Vv) <| zN V V (.cons (zJ V V (by first | exact zQ (zQ hB) | exact zQ hB | exact zQ (zQ (zP2 hab hB))) ta320 V Vv) (.cons (zJ V V (by first | exact zQ (zQ hB) | exact zQ hB | exact zQ (zQ (zP2 hab hB))) ta320 V Vv) (.nil))) ?_
  refine zN V V (.cons (zC2 V zP0 sz325 V (.some V V) .none (by simp) (by simp) Vv) (.cons (zC2 V zP0 sz325 V (.some V V) .none (by simp) (by simp) Vv) (.nil))) ?_
  rw [drop1]
  refine zV0 V V V V (zY2 V V V sz325 V V (zA V) Vv) <| zV0 V V V V (zJ3 V V V (by first | exact hB | exact zP2 hab hB) sz320 V V (zA V) ⟨rfl, by rw [hUB]; rfl⟩) ?_
  refine zQ0 <| zB ?_
  rcases Nat.lt_or_eq_of_le hj with hjm | hjm
  ·
   refine qR V <| qM V V V <| qO V <| zJ V V (zC3 hlT) ta325 V <| qO V <| (hyt j _ hjm hy).at2 V V V <| qO V <| zF1 V V <| qN <| zK V (V) <| zX ?_
   refine ⟨⟨j + 1, J ++ [_]⟩, by dsimp only; omega, ⟨by dsimp only; omega, by dsimp only; rw [restE, hR, hst]; exact hnx⟩, zO .., (.keep V (.keep V (.keep V (.keep V (.nil))))), (.nil)⟩
  ·
   refine qR V <| qM V V V <| qO V <| zJ V V (zC3 hlT) ta325 V <| qO V <| (hyf j _ hjm hy).at2 V V V <| qO V <| zF1 V V <| qN <| zU V (V) <| zH ?_
   rw [zO]
   exact zN2 (S' := T (j + 1)) (by simp) zG5 (by rw [(hok _).1, (hok _).1]; exact Nat.le_refl _) (hok _).2 ⟨rfl, by rw [hjm, if_pos (by omega)]⟩
 ·
  refine qR V <| qO V <| zJ V V (by first | exact zQ (zQ hA) | exact zQ hA) ta320 V ?_
  refine qE V V zP0 V <| qC V V V V (gt_cons) <| qM V V V <| qS V <| qS V <| qS V <| qP V V V V <| qN <| zU V (V) <| zX <| zB0 <| zB <| qR V <| qO V <| zS4 V zm325 <| qN <| zB <| zB0 <| zB ?_
  refine zW0 [] [_] mo (by decide) V V V V ?_
  refine dO V V V (zJ V V (by first | exact zQ (zQ hB) | exact zQ hB | exact zQ (zQ (zP2 hab hB))) ta320 V Vv) ?_
  refine dO V V V (zU1 V zP0 V Vv) <| dO V V V (zR2 V V V (eq_nil) Vv) <| dO V V V (zY V V Vv) <| dS V V <| dS V V <| dS V V <| dS V V <| dS V V <| dS V V <| dS V V <| dS V V <| dS V V <| dS V V <| dS V V <| dS V V <| dS V V <| dS V V <| dS V V <| dS V V <| dO V V V (zP1 V V V Vv) <| dO V V V (zZ0 V V Vv) <| zQ0 <| zU V (V) ?_
  have hst : stepE cmp (x :: ra, []) = (ra, []) := by rw [stepE]
  rw [mergeE] at he
  obtain ⟨hy, hnx⟩ := zQ1 he
  replace hy : ((mergeE cmp a b).map fun e => [encE encX e])[j]? = some [encE encX (x.1, x.2, none)] := by rw [zI0, hy]; rfl
  have hjl := (zD.1 hy).1
  have hUA : U j = (T j).set ida (.cells [.lst none 3 (ra.map (encR encX))]) := by rw [hU, hst]; exact zA5 (zP2 hab hB)
  refine zW0 [5, 6] [_, (T j ++ J) ++ [.cells [encX x.1, .sptr (encV x.2).cells, .ptr0]], (U j ++ J) ++ [.cells [encX x.1, .sptr (encV x.2).cells, .ptr0]]] mo (by decide) V V V V ?_
  refine dO V V V (zJ V V (by first | exact zQ (zQ hA) | exact zQ hA) ta320 V Vv) ?_
  refine dO V V V (zI V zP0 sz325 (by decide) V V V (show _ = some (encR encX x) from V) Vv) ?_
  refine dO V V V (zL V V ta325 V Vv) <| zN V V (.cons (zJ V V (by first | exact zQ (zQ hA) | exact zQ hA) ta320 V Vv) (.cons (zJ V V (by first | exact zQ (zQ hA) | exact zQ hA) ta320 V Vv) (.nil))) ?_
  refine zN V V (.cons (zC2 V zP0 sz325 V (.some V V) .none (by simp) (by simp) Vv) (.cons (zC2 V zP0 sz325 V (.some V V) .none (by simp) (by simp) Vv) (.nil))) ?_
  rw [drop1]
  refine zV0 V V V V (zY2 V V V sz325 V V (zA V) Vv) <| zV0 V V V V (zJ3 V V V (hA) sz320 V V (zA V) ⟨rfl, by rw [hUA]; rfl⟩) ?_
  refine zQ0 <| zB ?_
  rcases Nat.lt_or_eq_of_le hj with hjm | hjm
  ·
   refine qR V <| qM V V V <| qO V <| zJ V V (zC3 hlT) ta325 V <| qO V <| (hyt j _ hjm hy).at2 V V V <| qO V <| zF1 V V <| qN <| zK V (V) <| zX ?_
   refine ⟨⟨j + 1, J ++ [_]⟩, by dsimp only; omega, ⟨by dsimp only; omega, by dsimp only; rw [restE, hR, hst]; exact hnx⟩, zO .., (.keep V (.keep V (.keep V (.keep V (.nil))))), (.nil)⟩
  ·
   refine qR V <| qM V V V <| qO V <| zJ V V (zC3 hlT) ta325 V <| qO V <| (hyf j _ hjm hy).at2 V V V <| qO V <| zF1 V V <| qN <| zU V (V) <| zH ?_
   rw [zO]
   exact zN2 (S' := T (j + 1)) (by simp) zG5 (by rw [(hok _).1, (hok _).1]; exact Nat.le_refl _) (hok _).2 ⟨rfl, by rw [hjm, if_pos (by omega)]⟩
 ·
  refine qR V <| qO V <| zJ V V (by first | exact zQ (zQ hA) | exact zQ hA) ta320 V ?_
  refine qE V V zP0 V <| qC V V V V (gt_cons) <| qM V V V <| qS V <| qS V <| qS V <| qP V V V V <| qN <| zU V (V) <| zX <| zB0 <| zB <| qR V <| qO V <| zS4 V zm325 <| qN <| zB <| zB0 <| zB ?_
  refine zW0 [] [_] mo (by decide) V V V V ?_
  refine dO V V V (zJ V V (by first | exact zQ (zQ hB) | exact zQ hB | exact zQ (zQ (zP2 hab hB))) ta320 V Vv) ?_
  refine dO V V V (zU1 V zP0 V Vv) <| dO V V V (zR2 V V V (eq_cons) Vv) <| dO V V V (zY V V Vv) <| dO V V V (zJ V V (by first | exact zQ (zQ hA) | exact zQ hA) ta320 V Vv) ?_
  refine dO V V V (zU1 V zP0 V Vv) <| dO V V V (zR2 V V V (gt_cons) Vv) <| dO V V V (zY V V Vv) ?_
  refine zN V V (.cons (zJ V V (zQ (zQ hC)) ta322 V Vv) .nil) ?_
  refine dO V V V (zJ V V (by first | exact zQ (zQ hA) | exact zQ hA) ta320 V Vv) ?_
  refine dO V V V (zI V zP0 sz325 (by decide) V V V (show _ = some (encR encX x) from V) Vv) ?_
  refine dO V V V (zS1 V V fo325_0 Vv) <| dO V V V (zL V V ta9 V Vv) <| dO V V V (zJ V V (by first | exact zQ (zQ hB) | exact zQ hB | exact zQ (zQ (zP2 hab hB))) ta320 V Vv) ?_
  refine dO V V V (zI V zP0 sz325 (by decide) V V V (show _ = some (encR encX y) from V) Vv) ?_
  refine dO V V V (zS1 V V fo325_0 Vv) <| dO V V V (zL V V ta9 V Vv) <| zN V V (.cons (zT0 V V V hcc (hcmp x.1 y.1 _)) .nil) <| dO V V V (zR2 V V V V Vv) <| dO V V V (zP1 V V V Vv) <| dO V V V (zP1 V V V Vv) <| dO V V V (zZ0 V V Vv) <| zQ0 ?_
  refine zM V (fun h31 => ?_) (fun h31 => ?_)
  ·
   have hlt : cmp x.1 y.1 < 0 := by simpa using h31
   have hst : stepE cmp (x :: ra, y :: rb) = (ra, y :: rb) := by rw [stepE, if_pos hlt]
   rw [mergeE, if_pos hlt] at he
   obtain ⟨hy, hnx⟩ := zQ1 he
   replace hy : ((mergeE cmp a b).map fun e => [encE encX e])[j]? = some [encE encX (x.1, x.2, none)] := by rw [zI0, hy]; rfl
   have hjl := (zD.1 hy).1
   have hUA : U j = (T j).set ida (.cells [.lst none 3 (ra.map (encR encX))]) := by rw [hU, hst]; exact zA5 (zP2 hab hB)
   refine zW0 [5, 6] [_, (T j ++ J) ++ [.cells [encX x.1, .sptr (encV x.2).cells, .ptr0]], (U j ++ J) ++ [.cells [encX x.1, .sptr (encV x.2).cells, .ptr0]]] mo (by decide) V V V V ?_
   refine dO V V V (zJ V V (by first | exact zQ (zQ hA) | exact zQ hA) ta320 V Vv) ?_
   refine dO V V V (zI V zP0 sz325 (by decide) V V V (show _ = some (encR encX x) from V) Vv) ?_
   refine dO V V V (zL V V ta325 V Vv) <| zN V V (.cons (zJ V V (by first | exact zQ (zQ hA) | exact zQ hA) ta320 V Vv) (.cons (zJ V V (by first | exact zQ (zQ hA) | exact zQ hA) ta320 V Vv) (.nil))) ?_
   refine zN V V (.cons (zC2 V zP0 sz325 V (.some V V) .none (by simp) (by simp) Vv) (.cons (zC2 V zP0 sz325 V (.some V V) .none (by simp) (by simp) Vv) (.nil))) ?_
   rw [drop1]
   refine zV0 V V V V (zY2 V V V sz325 V V (zA V) Vv) <| zV0 V V V V (zJ3 V V V (hA) sz320 V V (zA V) ⟨rfl, by rw [hUA]; rfl⟩) ?_
   refine zQ0 <| zB ?_
   rcases Nat.lt_or_eq_of_le hj with hjm | hjm
   ·
    refine qR V <| qM V V V <| qO V <| zJ V V (zC3 hlT) ta325 V <| qO V <| (hyt j _ hjm hy).at2 V V V <| qO V <| zF1 V V <| qN <| zK V (V) <| zX ?_
    refine ⟨⟨j + 1, J ++ [_]⟩, by dsimp only; omega, ⟨by dsimp only; omega, by dsimp only; rw [restE, hR, hst]; exact hnx⟩, zO .., (.keep V (.keep V (.keep V (.keep V (.nil))))), (.nil)⟩
   ·
    refine qR V <| qM V V V <| qO V <| zJ V V (zC3 hlT) ta325 V <| qO V <| (hyf j _ hjm hy).at2 V V V <| qO V <| zF1 V V <| qN <| zU V (V) <| zH ?_
    rw [zO]
    exact zN2 (S' := T (j + 1)) (by simp) zG5 (by rw [(hok _).1, (hok _).1]; exact Nat.le_refl _) (hok _).2 ⟨rfl, by rw [hjm, if_pos (by omega)]⟩
  ·
   have hlt : ¬ cmp x.1 y.1 < 0 := by simpa using h31
   refine zB ?_
   refine zW0 [] [_] mo (by decide) V V V V ?_
   refine dO V V V (zJ V V (by first | exact zQ (zQ hA) | exact zQ hA) ta320 V Vv) ?_
   refine dO V V V (zU1 V zP0 V Vv) <| dO V V V (zR2 V V V (eq_cons) Vv) <| dO V V V (zY V V Vv) ?_
   refine zN V V (.cons (zJ V V (zQ (zQ hC)) ta322 V Vv) .nil) ?_
   refine dO V V V (zJ V V (by first | exact zQ (zQ hB) | exact zQ hB | exact zQ (zQ (zP2 hab hB))) ta320 V Vv) ?_
   refine dO V V V (zI V zP0 sz325 (by decide) V V V (show _ = some (encR encX y) from V) Vv) ?_
   refine dO V V V (zS1 V V fo325_0 Vv) <| dO V V V (zL V V ta9 V Vv) <| dO V V V (zJ V V (by first | exact zQ (zQ hA) | exact zQ hA) ta320 V Vv) ?_
   refine dO V V V (zI V zP0 sz325 (by decide) V V V (show _ = some (encR encX x) from V) Vv) ?_
   refine dO V V V (zS1 V V fo325_0 Vv) <| dO V V V (zL V V ta9 V Vv) <| zN V V (.cons (zT0 V V V hcc (hcmp y.1 x.1 _)) .nil) <| dO V V V (zR2 V V V V Vv) <| dO V V V (zP1 V V V Vv) <| dO V V V (zZ0 V V Vv) <| zQ0 ?_
   refine zM V (fun h58 => ?_) (fun h58 => ?_)
   ·
    have hgt : cmp y.1 x.1 < 0 := by simpa using h58
    have hst : stepE cmp (x :: ra, y :: rb) = (x :: ra, rb) := by rw [stepE, if_neg hlt, if_pos hgt]
    rw [mergeE, if_neg hlt, if_pos hgt] at he
    obtain ⟨hy, hnx⟩ := zQ1 he
    replace hy : ((mergeE cmp a b).map fun e => [encE encX e])[j]? = some [encE encX (y.1, y.2, none)] := by rw [zI0, hy]; rfl
    have hjl := (zD.1 hy).1
    have hUB : U j = (T j).set idb (.cells [.lst none 3 (rb.map (encR encX))]) := by rw [hU, hst, zA5 hA]
    refine zW0 [5, 6] [_, (T j ++ J) ++ [.cells [encX y.1, .sptr (encV y.2).cells, .ptr0]], (U j ++ J) ++ [.cells [encX y.1, .sptr (encV y.2).cells, .ptr0]]] mo (by decide) V V V V ?_
    refine dO V V V (zJ V V (by first | exact zQ (zQ hB) | exact zQ hB | exact zQ (zQ (zP2 hab hB))) ta320 V Vv) ?_
    refine dO V V V (zI V zP0 sz325 (by decide) V V V (show _ = some (encR encX y) from V) Vv) ?_
    refine dO V V V (zL V V ta325 V Vv) <| zN V V (.cons (zJ V V (by first | exact zQ (zQ hB) | exact zQ hB | exact zQ (zQ (zP2 hab hB))) ta320 V Vv) (.cons (zJ V V (by first | exact zQ (zQ hB) | exact zQ hB | exact zQ (zQ (zP2 hab hB))) ta320 V Vv) (.nil))) ?_
    refine zN V V (.cons (zC2 V zP0 sz325 V (.some V V) .none (by simp) (by simp) Vv) (.cons (zC2 V zP0 sz325 V (.some V V) .none (by simp) (by simp) Vv) (.nil))) ?_
    rw [drop1]
    refine zV0 V V V V (zY2 V V V sz325 V V (zA V) Vv) <| zV0 V V V V (zJ3 V V V (by first | exact hB | exact zP2 hab hB) sz320 V V (zA V) ⟨rfl, by rw [hUB]; rfl⟩) ?_
    refine zQ0 <| zB ?_
    rcases Nat.lt_or_eq_of_le hj with hjm | hjm
    ·
     refine qR V <| qM V V V <| qO V <| zJ V V (zC3 hlT) ta325 V <| qO V <| (hyt j _ hjm hy).at2 V V V <| qO V <| zF1 V V <| qN <| zK V (V) <| zX ?_
     refine ⟨⟨j + 1, J ++ [_]⟩, by dsimp only; omega, ⟨by dsimp only; omega, by dsimp only; rw [restE, hR, hst]; exact hnx⟩, zO .., (.keep V (.keep V (.keep V (.keep V (.nil))))), (.nil)⟩
    ·
     refine qR V <| qM V V V <| qO V <| zJ V V (zC3 hlT) ta325 V <| qO V <| (hyf j _ hjm hy).at2 V V V <| qO V <| zF1 V V <| qN <| zU V (V) <| zH ?_
     rw [zO]
     exact zN2 (S' := T (j + 1)) (by simp) zG5 (by rw [(hok _).1, (hok _).1]; exact Nat.le_refl _) (hok _).2 ⟨rfl, by rw [hjm, if_pos (by omega)]⟩
   ·
    have hgt : ¬ cmp y.1 x.1 < 0 := by simpa using h58
    have hst : stepE cmp (x :: ra, y :: rb) = (ra, rb) := by rw [stepE, if_neg hlt, if_neg hgt]
    rw [mergeE, if_neg hlt, if_neg hgt] at he
    obtain ⟨hy, hnx⟩ := zQ1 he
    replace hy : ((mergeE cmp a b).map fun e => [encE encX e])[j]? = some [encE encX (x.1, x.2, some y.2)] := by rw [zI0, hy]; rfl
    have hjl := (zD.1 hy).1
    have hUC : U j = ((T j).set ida (.cells [.lst none 3 (ra.map (encR encX))])).set idb (.cells [.lst none 3 (rb.map (encR encX))]) := by rw [hU, hst]
    refine zW0 [17, 18, 19] [_, (T j ++ J) ++ [.cells [encX x.1, .sptr (encV x.2).cells, .sptr (encV y.2).cells]], ((T j).set ida (.cells [.lst none 3 (ra.map (encR encX))]) ++ J) ++ [.cells [encX x.1, .sptr (encV x.2).cells, .sptr (encV y.2).cells]], (U j ++ J) ++ [.cells [encX x.1, .sptr (encV x.2).cells, .sptr (encV y.2).cells]]] mo (by decide) V V V V ?_
    refine dO V V V (zJ V V (by first | exact zQ (zQ hA) | exact zQ hA) ta320 V Vv) ?_
    refine dO V V V (zI V zP0 sz325 (by decide) V V V (show _ = some (encR encX x) from V) Vv) ?_
    refine dO V V V (zS1 V V fo325_0 Vv) <| dO V V V (zL V V ta9 V Vv) <| dO V V V (zJ V V (by first | exact zQ (zQ hA) | exact zQ hA) ta320 V Vv) ?_
    refine dO V V V (zI V zP0 sz325 (by decide) V V V (show _ = some (encR encX x) from V) Vv) ?_
    refine dO V V V (zS1 V V fo325_1 Vv) <| dO V V V (zL V V ta323 V Vv) <| dO V V V (zJ V V (by first | exact zQ (zQ hB) | exact zQ hB | exact zQ (zQ (zP2 hab hB))) ta320 V Vv) ?_
    refine dO V V V (zI V zP0 sz325 (by decide) V V V (show _ = some (encR encX y) from V) Vv) ?_
    refine dO V V V (zS1 V V fo325_1 Vv) <| dO V V V (zL V V ta323 V Vv) <| dO V V V (zR1 V Tryz.underlying325 zm325 (.cons fo325_0 sz9 V V (zA V) (.cons fo325_1 sz323 V V (zA V) (.cons fo325_2 sz323 V V (zA V) .nil))) (by kernel_rfl) Vv) ?_
    refine zN V V (.cons (zJ V V (by first | exact zQ (zQ hA) | exact zQ hA) ta320 V Vv) (.cons (zJ V V (by first | exact zQ (zQ hA) | exact zQ hA) ta320 V Vv) (.nil))) ?_
    refine zN V V (.cons (zC2 V zP0 sz325 V (.some V V) .none (by simp) (by simp) Vv) (.cons (zC2 V zP0 sz325 V (.some V V) .none (by simp) (by simp) Vv) (.nil))) ?_
    rw [drop1]
    refine zN V V (.cons (zJ V V (by first | exact zQ (zQ hB) | exact zQ hB | exact zQ (zQ (zP2 hab hB))) ta320 V Vv) (.cons (zJ V V (by first | exact zQ (zQ hB) | exact zQ hB | exact zQ (zQ (zP2 hab hB))) ta320 V Vv) (.cons (zJ V V (by first | exact zQ (zQ hB) | exact zQ hB | exact zQ (zQ (zP2 hab hB))) ta320 V Vv) (.nil)))) ?_
    refine zN V V (.cons (zC2 V zP0 sz325 V (.some V V) .none (by simp) (by simp) Vv) (.cons (zC2 V zP0 sz325 V (.some V V) .none (by simp) (by simp) Vv) (.cons (zC2 V zP0 sz325 V (.some V V) .none (by simp) (by simp) Vv) (.nil)))) ?_
    rw [drop1]
    refine zV0 V V V V (zY2 V V V sz325 V V (zA V) Vv) <| zV0 V V V V (zJ3 V V V (hA) sz320 V V (zA V) Vv) <| zV0 V V V V (zJ3 V V V (by first | exact hB | exact zP2 hab hB) sz320 V V (zA V) ⟨rfl, by rw [hUC]; rfl⟩) ?_
    refine zQ0 <| zB ?_
    rcases Nat.lt_or_eq_of_le hj with hjm | hjm
    ·
     refine qR V <| qM V V V <| qO V <| zJ V V (zC3 hlT) ta325 V <| qO V <| (hyt j _ hjm hy).at2 V V V <| qO V <| zF1 V V <| qN <| zK V (V) <| zX ?_
     refine ⟨⟨j + 1, J ++ [_]⟩, by dsimp only; omega, ⟨by dsimp only; omega, by dsimp only; rw [restE, hR, hst]; exact hnx⟩, zO .., (.keep V (.keep V (.keep V (.keep V (.nil))))), (.nil)⟩
    ·
     refine qR V <| qM V V V <| qO V <| zJ V V (zC3 hlT) ta325 V <| qO V <| (hyf j _ hjm hy).at2 V V V <| qO V <| zF1 V V <| qN <| zU V (V) <| zH ?_
     rw [zO]
     exact zN2 (S' := T (j + 1)) (by simp) zG5 (by rw [(hok _).1, (hok _).1]; exact Nat.le_refl _) (hok _).2 ⟨rfl, by rw [hjm, if_pos (by omega)]⟩
theorem set4 {S : MS} {i k : Nat} {a b c d : MObj} (h : i ≠ k) : (S.set i c).set k d = (((S.set i a).set k b).set i c).set k d := by
 rw [List.set_comm a b h, List.set_set, List.set_comm b c h.symm, List.set_set]
theorem stJ_cl {cmp : List Tk → List Tk → Int} {a b : List (REnt (List Tk))} {S L : MS} {ida idb j n : Nat} (hcl : ClS (S ++ L)) (hn : (S ++ L).length ≤ n) {o : MObj} (ho : o ∈ (S.set ida (.cells [.lst none 3 ((restE cmp a b j).1.map (encR encC))])).set idb (.cells [.lst none 3 ((restE cmp a b j).2.map (encR encC))])) : o.cl n := by
 have hr : ∀ l : List (REnt (List Tk)), (MObj.cells [.lst none 3 (l.map (encR encC))]).cl n := fun l x hx => by
  simp at hx
  subst hx
  exact cl_lst (cl_encR (fun n k => cl_encC n k) _) (fun _ => .inl rfl)
 rcases List.mem_or_eq_of_mem_set ho with ho | rfl
 ·rcases List.mem_or_eq_of_mem_set ho with ho | rfl
  ·obtain ⟨i, hi⟩ := List.getElem?_of_mem ho
   have := hcl i o (zQ hi)
   cases o with
   | cells l => exact fun x hx => (this x hx).mono hn
   | loop s p ls => exact fun t x hx => (this t x hx).mono hn
   | row _ _ _ => exact trivial
   | mp _ es => exact fun e he => (this e he).mono hn
   | mit m _ _ _ => exact Nat.lt_of_lt_of_le this hn
   | pin _ _ => exact trivial
   | tcells _ l => exact fun x hx => (this x hx).mono hn
   | orow _ _ _ l => exact fun x hx => (this x hx).mono hn
   | fixed _ _ => exact trivial
   | gone => exact trivial
  ·exact hr _
 ·exact hr _
theorem stJ_ClS {cmp : List Tk → List Tk → Int} {a b : List (REnt (List Tk))} {S : MS} {ida idb j : Nat} (hcl : ClS (S ++ [])) : ClS ((S.set ida (.cells [.lst none 3 ((restE cmp a b j).1.map (encR encC))])).set idb (.cells [.lst none 3 ((restE cmp a b j).2.map (encR encC))])) := fun i o hi => stJ_cl hcl (by simp) (zW hi)
theorem own_cl {A : MS} {t n ty k : Nat} {xs : List (Ent (List Tk))} (hA : ∀ n, t + 1 ≤ n → ∀ o, o ∈ A → o.cl n) (hn : t + 1 ≤ n) {o : MObj} (ho : o ∈ A ++ [.cells [.lst (some t) 3 (xs.map (encE encC))], .row ty 3 k]) : o.cl n := by
 rcases zQ2.1 ho with ho | ho
 ·exact hA n hn o ho
 ·simp only [List.mem_cons, List.not_mem_nil, or_false] at ho
  rcases ho with rfl | rfl
  ·intro x hx
   simp at hx
   subst hx
   exact cl_lstT (by omega) (cl_encE (fun n k => cl_encC n k) _) (fun _ => .inl rfl)
  ·exact trivial
theorem encR_one {κ : Type} (ek : κ → MV) (e : REnt κ) : encR ek e = .agg (encR ek e).cells ∨ [encR ek e] = (encR ek e).cells := .inl rfl
theorem encE_one {κ : Type} (ek : κ → MV) (e : Ent κ) : encE ek e = .agg (encE ek e).cells ∨ [encE ek e] = (encE ek e).cells := .inl rfl
theorem zip_succ {α β : Type} {a : List α} {b : List β} {i : Nat} {x : α} {y : β} (hx : a[i]? = some x) (hy : b[i]? = some y) : (a.zip b).take (i + 1) = (a.zip b).take i ++ [(x, y)] := by
 have h : (a.zip b)[i]? = some (x, y) := List.getElem?_zip_eq_some.2 ⟨hx, hy⟩
 rw [List.take_add_one, h]
 rfl
theorem cmerged_spec (a b : List (REnt (List Tk))) (kc : FuncId) (S : MS) : MCalls Tryz.prog 274 [.lst none 3 (a.map (encR encC)), .lst none 3 (b.map (encR encC)), .fn (.func kc) [] []] S fun v σ' => v = .fn (.func 303) [] [.ref S.length 0, .ref (S.length + 1) 0, .ref (S.length + 2) 0] ∧ σ' = S ++ [.cells [.lst none 3 (a.map (encR encC))], .cells [.lst none 3 (b.map (encR encC))], .cells [.fn (.func kc) [] []]] := by
 refine zR Tryz.func274 V Tryz.ntmps274 (zA V) ?_
 refine zB <| qR V <| qB V V V V V <| qB V V V V V <| qB V V V V V <| qA V V V <| qN <| zB <| qR V <| qO V <| zI2 V V V <| qA V V V <| qN ?_
 refine zG1 fun hcv hcl => ?_
 refine zH ?_
 exact ret_tmpT (.inr V) Tryz.results274 V (.refl _) (hcv 6 _ rfl) (by simp) hcl Vv
theorem crow_spec (keys : List (List Tk)) (vals : List Val) (hkv : keys.length = vals.length) (hk : keys.length ≤ 1000) (S : MS) : MCalls Tryz.prog 275 [.lst none 1 (keys.map encC), .lst none 5 (encVs vals)] S fun v σ' => v = .lst none 3 ((keys.zip vals).map (encR encC)) ∧ σ' = S := by
 refine zR Tryz.func275 V Tryz.ntmps275 (zA V) ?_
 refine zZ3 (t := 0) V fun hlen => ?_
 rw [zF] at hlen
 refine zB <| qR V <| qA V V V <| qN <| zB <| qR V <| qA V V V <| qN <| zB <| zB <| qR V <| qM V V V <| qE V V zD0 V <| qM V V V <| qN <| zB0 <| mwp_row0 5 332 3 V (Nat.le_refl _) V V ?_
 refine zO4 (α := Nat) [(1, _), (8, _), (9, _)] (fun i => [(10, .int .i64 (i : Int)), (5, .lst (some (S.length + 0)) 3 (((keys.zip vals).take i).map (encR encC)))]) (fun i => [.row 332 3 ((keys.zip vals).take i).length]) (fun i => i ≤ keys.length) (fun i => keys.length - i) (0) (Nat.le_refl _) (.keep V (.keep V (.keep V (.nil)))) (.keep V (.keep V (.nil))) (by omega) (V) ?_
 rintro i hi
 have hzl : ((keys.zip vals).take i).length ≤ 1000 := by rw [List.length_take, List.length_zip]; omega
 refine zB <| qR V <| qC V V V V V <| qN <| zB ?_
 refine zM V (fun h11 => ?_) (fun h11 => ?_)
 ·
  have hlt : i < keys.length := by simpa using h11
  obtain ⟨k, hs⟩ : ∃ q_, keys[i]? = some q_ := ⟨_, zC hlt⟩
  obtain ⟨v, hs2⟩ : ∃ q, vals[i]? = some q := ⟨_, zC (by omega)⟩
  refine zX <| zB <| zB0 <| zB <| qR V <| qM V V V <| qO V <| zI V zD0 sz202 (by decide) V V V (zM1 hs) ?_
  refine qO V <| zL V V ta202 V <| qA V V V <| qA V V V <| qN <| qR V <| qM V V V <| qM V V V <| qM V V V <| qM V V V <| qO V <| zI V zG0 sz27 (by decide) V V V (zC4 hs2) ?_
  refine qO V <| zR1 V Tryz.underlying332 zm332 (.cons zQ5 sz202 V V (zA V) (.cons fo332_1 sz323 V V (zA V) .nil)) (by kernel_rfl) ?_
  refine qO V <| zL1 V zK0 el332 V V (by decide) (by decide) V V ?_
  refine qO V <| zK3 V zK0 el332 V V V (by simp) (by simp only [zF, zF0, List.length_nil]; omega) (by simp only [zF, zF0, List.length_nil]; omega) V ?_
  refine qA V V V <| qN <| qR V <| qO V <| zH1 V V V V <| qM V V V <| qN ?_
  refine ⟨i + 1, _, by omega, by omega, by rw [zip_succ hs hs2, zE]; rfl, .new trivial .nil, (.old V V (.old V V (.old V V (.nil)))), (.new' V (zH2 hlt hlen) (.int _ _) (.new' V (by rw [zip_succ hs hs2, List.map_append]; rfl) (cl_lstT (by simp) (cl_encR (fun n k => cl_encC n k) _) (encR_one _)) (.nil)))⟩
 ·
  have hge : i = keys.length := by simp at h11; omega
  refine zV1 <| zB <| qR V <| qM V V V <| qA V V V <| qN <| zH ?_
  exact zT (.inr V) Tryz.results275 V (Sub.trans (.view _ _ _) (.of_eq (by rw [hge, List.take_of_length_le (by rw [List.length_zip]; omega)]))) (cl_lst (cl_encR (fun n k => cl_encC n k) _) (encR_one _)) Vv
theorem xmerged_spec (a b : List (REnt (Bs))) (kc : FuncId) (S : MS) : MCalls Tryz.prog 266 [.lst none 3 (a.map (encR encX)), .lst none 3 (b.map (encR encX)), .fn (.func kc) [] []] S fun v σ' => v = .fn (.func 296) [] [.ref S.length 0, .ref (S.length + 1) 0, .ref (S.length + 2) 0] ∧ σ' = S ++ [.cells [.lst none 3 (a.map (encR encX))], .cells [.lst none 3 (b.map (encR encX))], .cells [.fn (.func kc) [] []]] := by
 refine zR Tryz.func266 V Tryz.ntmps266 (zA V) ?_
 refine zB <| qR V <| qB V V V V V <| qB V V V V V <| qB V V V V V <| qA V V V <| qN <| zB <| qR V <| qO V <| zI2 V V V <| qA V V V <| qN ?_
 refine zG1 fun hcv hcl => ?_
 refine zH ?_
 exact ret_tmpT (.inr V) Tryz.results266 V (.refl _) (hcv 6 _ rfl) (by simp) hcl Vv
theorem xrow_spec (keys : List (Bs)) (vals : List Val) (hkv : keys.length = vals.length) (hk : keys.length ≤ 1000) (S : MS) : MCalls Tryz.prog 267 [.lst none 1 (keys.map encX), .lst none 5 (encVs vals)] S fun v σ' => v = .lst none 3 ((keys.zip vals).map (encR encX)) ∧ σ' = S := by
 refine zR Tryz.func267 V Tryz.ntmps267 (zA V) ?_
 refine zZ3 (t := 0) V fun hlen => ?_
 rw [zF] at hlen
 refine zB <| qR V <| qA V V V <| qN <| zB <| qR V <| qA V V V <| qN <| zB <| zB <| qR V <| qM V V V <| qE V V zE0 V <| qM V V V <| qN <| zB0 <| mwp_row0 5 325 3 V (Nat.le_refl _) V V ?_
 refine zO4 (α := Nat) [(1, _), (8, _), (9, _)] (fun i => [(10, .int .i64 (i : Int)), (5, .lst (some (S.length + 0)) 3 (((keys.zip vals).take i).map (encR encX)))]) (fun i => [.row 325 3 ((keys.zip vals).take i).length]) (fun i => i ≤ keys.length) (fun i => keys.length - i) (0) (Nat.le_refl _) (.keep V (.keep V (.keep V (.nil)))) (.keep V (.keep V (.nil))) (by omega) (V) ?_
 rintro i hi
 have hzl : ((keys.zip vals).take i).length ≤ 1000 := by rw [List.length_take, List.length_zip]; omega
 refine zB <| qR V <| qC V V V V V <| qN <| zB ?_
 refine zM V (fun h11 => ?_) (fun h11 => ?_)
 ·
  have hlt : i < keys.length := by simpa using h11
  obtain ⟨k, hs⟩ : ∃ q_, keys[i]? = some q_ := ⟨_, zC hlt⟩
  obtain ⟨v, hs2⟩ : ∃ q, vals[i]? = some q := ⟨_, zC (by omega)⟩
  refine zX <| zB <| zB0 <| zB <| qR V <| qM V V V <| qO V <| zI V zE0 sz9 (by decide) V V V (zM1 hs) ?_
  refine qO V <| zL V V ta9 V <| qA V V V <| qA V V V <| qN <| qR V <| qM V V V <| qM V V V <| qM V V V <| qM V V V <| qO V <| zI V zG0 sz27 (by decide) V V V (zC4 hs2) ?_
  refine qO V <| zR1 V Tryz.underlying325 zm325 (.cons fo325_0 sz9 V V (zA V) (.cons fo325_1 sz323 V V (zA V) .nil)) (by kernel_rfl) ?_
  refine qO V <| zL1 V zP0 el325 V V (by decide) (by decide) V V ?_
  refine qO V <| zK3 V zP0 el325 V V V (by simp) (by simp only [zF, zF0, List.length_nil]; omega) (by simp only [zF, zF0, List.length_nil]; omega) V ?_
  refine qA V V V <| qN <| qR V <| qO V <| zH1 V V V V <| qM V V V <| qN ?_
  refine ⟨i + 1, _, by omega, by omega, by rw [zip_succ hs hs2, zE]; rfl, .new trivial .nil, (.old V V (.old V V (.old V V (.nil)))), (.new' V (zH2 hlt hlen) (.int _ _) (.new' V (by rw [zip_succ hs hs2, List.map_append]; rfl) (cl_lstT (by simp) (cl_encR (fun n k => cl_encX n k) _) (encR_one _)) (.nil)))⟩
 ·
  have hge : i = keys.length := by simp at h11; omega
  refine zV1 <| zB <| qR V <| qM V V V <| qA V V V <| qN <| zH ?_
  exact zT (.inr V) Tryz.results267 V (Sub.trans (.view _ _ _) (.of_eq (by rw [hge, List.take_of_length_le (by rw [List.length_zip]; omega)]))) (cl_lst (cl_encR (fun n k => cl_encX n k) _) (encR_one _)) Vv
theorem set2_app {A O C : MS} {i k : Nat} {a b a0 b0 : MObj} (hA : A[i]? = some a0) (hB : A[k]? = some b0) (hne : i ≠ k) : ((([] ++ (A ++ O)) ++ C).set i a).set k b = ([] ++ (((A.set i a).set k b) ++ O)) ++ C := by
 rw [List.nil_append, List.nil_append, set_app (zQ hA), set_app hA, set_app (zQ (zP2 hne hB)), set_app (zP2 hne hB)]
theorem get_nil_app {A : MS} {i : Nat} {o : MObj} (h : A[i]? = some o) : (([] : MS) ++ A)[i]? = some o := h
def stJ (cmp : List Tk → List Tk → Int) (a b : List (REnt (List Tk))) (S : MS) (ida idb j : Nat) : MS := (S.set ida (.cells [.lst none 3 ((restE cmp a b j).1.map (encR encC))])).set idb (.cells [.lst none 3 ((restE cmp a b j).2.map (encR encC))])
theorem stJ_len {cmp : List Tk → List Tk → Int} {a b : List (REnt (List Tk))} {S : MS} {ida idb j : Nat} : (stJ cmp a b S ida idb j).length = S.length := by simp [stJ]
theorem _root_.zH5 : type_of% @stJ_len := @stJ_len
theorem cl_entC (n : Nat) (e : Ent (List Tk)) : Cl n (encE encC e) := cl_encE (fun n k => cl_encC n k) n e
theorem appendSeq_spec (a b : List (REnt (List Tk))) (hab : a.length + b.length ≤ 1000) (kc : FuncId) (cmp : List Tk → List Tk → Int) (hcc : CallOk Tryz.prog kc) (hcmp : ∀ (k1 k2 : List Tk) (S : MS), MCalls Tryz.prog kc ([] ++ [encC k1, encC k2] ++ []) S fun v σ' => v = .int .i64 (cmp k1 k2) ∧ σ' = S) (ida idb idc : Nat) (hne : ida ≠ idb) (hnc : ida ≠ idc) (hnd : idb ≠ idc) (S : MS) (hA : S[ida]? = some (.cells [.lst none 3 (a.map (encR encC))])) (hB : S[idb]? = some (.cells [.lst none 3 (b.map (encR encC))])) (hC : S[idc]? = some (.cells [.fn (.func kc) [] []])) : MCalls Tryz.prog 302 [.lst0, .fn (.func 303) [] [.ref ida 0, .ref idb 0, .ref idc 0]] S fun v σ' => v = .lst none 3 ((mergeE cmp a b).map (encE encC)) ∧ σ' = stJ cmp a b S ida idb (mergeE cmp a b).length := by
 refine zR Tryz.func302 V Tryz.ntmps302 (zA V) ?_
 refine zG1 fun _ hcl0 => ?_
 refine zB <| qR V <| qB V V V V V <| qA V V V <| qN <| zB <| zB <| qR V <| qM V V V <| qN <| zB0 <| mwp_cellrow 0 332 3 V (Nat.le_refl _) V V ?_
 refine zG1 fun _ hcl => ?_
 have hS0 : stJ cmp a b S ida idb 0 = S := by unfold stJ; rw [restE, zA5 hA, zA5 hB]
 have hgA : ∀ j, (stJ cmp a b S ida idb j)[ida]? = some (.cells [.lst none 3 ((restE cmp a b j).1.map (encR encC))]) := fun j => by unfold stJ; exact zP2 hne.symm (get_set hA)
 have hgB : ∀ j, (stJ cmp a b S ida idb j)[idb]? = some (.cells [.lst none 3 ((restE cmp a b j).2.map (encR encC))]) := fun j => by unfold stJ; exact get_set (zP2 hne hB)
 have hgC : ∀ j, (stJ cmp a b S ida idb j)[idc]? = some (.cells [.fn (.func kc) [] []]) := fun j => by unfold stJ; exact zP2 hnd (zP2 hnc hC)
 have hstep : ∀ j, stJ cmp a b S ida idb (j + 1) = ((stJ cmp a b S ida idb j).set ida (.cells [.lst none 3 ((restE cmp a b (j + 1)).1.map (encR encC))])).set idb (.cells [.lst none 3 ((restE cmp a b (j + 1)).2.map (encR encC))]) := fun j => by unfold stJ; exact set4 hne
 have hcS : ∀ j n, S.length + 2 ≤ n → ∀ o, o ∈ stJ cmp a b S ida idb j → o.cl n := fun j n hn o ho => stJ_cl hcl (by simpa using hn) ho
 show mwp _ _ _ _ _ _ _ (([] : MS) ++ _)
 refine mwp_rangeC (L0 := _) .ret (.inl V) (fun j => true) (fun j => (stJ cmp a b S ida idb j ++ [.cells [.lst (some (S.length + 1)) 3 (((mergeE cmp a b).take j).map (encE encC))], .row 332 3 ((mergeE cmp a b).take j).length] : MS)) (fun j => (stJ cmp a b S ida idb (j + 1) ++ [.cells [.lst (some (S.length + 1)) 3 (((mergeE cmp a b).take j).map (encE encC))], .row 332 3 ((mergeE cmp a b).take j).length] : MS)) (fun j => (stJ cmp a b S ida idb j ++ [.cells [.lst (some (S.length + 1)) 3 (((mergeE cmp a b).take j).map (encE encC))], .row 332 3 ((mergeE cmp a b).take j).length] : MS)) (fun j => by simp [zH5]) (fun j => by simp [zH5]) (fun j => by simp [zH5]) (by rw [hS0]; rfl)
  (fun j o ho n hn => own_cl (hcS j) (by simpa [zH5] using hn) ho) (fun j o ho n hn => own_cl (hcS (j + 1)) (by simpa [zH5] using hn) ho) (fun j o ho n hn => own_cl (hcS j) (by simpa [zH5] using hn) ho) rfl co303 rfl (by simp [zH5]) (cmerged_iter cmp kc hcc hcmp a b ida idb idc (S.length + 3) hne) (fun j => by simp [zH5]) (fun j hj => ⟨zQ (get_nil_app (zQ (hgA j))), zQ (get_nil_app (zQ (hgB j))), zQ (get_nil_app (zQ (hgC j))), ?_⟩) (fun j s q => by simp [zH5]) rfl (fun y hy => by obtain ⟨i, _, rfl⟩ := List.mem_map.1 hy; rfl) ?_ ?_ ?_
 ·exact (congrArg (fun x => (([] : MS) ++ (x ++ _)) ++ _) (hstep j)).trans (set2_app (hgA j) (hgB j) hne).symm
 ·
  intro j y hy hbef L'
  rw [zI0] at hy
  obtain ⟨⟨kk, v, o⟩, hp, rfl⟩ := Option.map_eq_some_iff.1 hy
  have htl : ((mergeE cmp a b).take j).length ≤ 1000 := by have := mergeE_len cmp a b; rw [List.length_take]; omega
  have hlj : (stJ cmp a b S ida idb (j + 1)).length = S.length := zH5
  refine qR V <| qO V <| zS4 V zm332 <| qO V <| zY2 V V V sz332 V (by cases o <;> rfl) (zA V) ?_
  refine qN ?_
  refine ⟨rfl, [_], rfl, ?_⟩
  rw [zO ([] ++ _)]
  show mwp _ _ _ _ _ _ _ ((stJ cmp a b S ida idb (j + 1) ++ _) ++ _)
  refine mwp_abs fun R hR => ?_
  refine zB0 <| qR V <| qO V <| zJ V V (get_o0 hlj) ta329 V <| qO V <| zJ V V (by rw [hR]; exact get_rt) ta332 V ?_
  refine qO V <| zL1 V zK0 el332 V V (by decide) (by decide) V (by cases o <;> rfl) ?_
  refine qO V <| op_append V zK0 el332 V V (get_o1 hlj) (by simp) (by simp only [zF, zF0, List.length_nil]; omega) (by simp only [zF, zF0, List.length_nil]; omega) ?_
  refine qO V <| zK4 V V V (get_o0' hlj) sz329 V V (zA V) <| qN ?_
  exact .inl ⟨rfl, rfl, [_], (set_o01 hlj).trans (by rw [hR, List.take_add_one (l := mergeE cmp a b), hp, Option.toList_some, List.map_append, len_snoc]; exact (zO _ _ _).symm)⟩
 ·
  intro _
  rw [zF]
  refine zB <| qR V <| qO V <| zJ V V (get_o0 zH5) ta329 V <| qA V V V <| qN <| zH ?_
  show BodyQ _ _ _ _ _ _ ((stJ cmp a b S ida idb (mergeE cmp a b).length ++ _) ++ _)
  rw [zO]
  exact ret_tmpS (.inr V) Tryz.results302 V (Sub.trans (.view _ _ _) (.of_eq (by rw [List.take_length]))) (cl_lst (cl_entC _) (encE_one _)) (by simp [zH5]) (stJ_ClS hcl0) Vv
 ·
  intro j y hy hp
  cases hp
theorem collect_spec (a b : List (REnt (List Tk))) (hab : a.length + b.length ≤ 1000) (kc : FuncId) (cmp : List Tk → List Tk → Int) (hcc : CallOk Tryz.prog kc) (hcmp : ∀ (k1 k2 : List Tk) (S : MS), MCalls Tryz.prog kc ([] ++ [encC k1, encC k2] ++ []) S fun v σ' => v = .int .i64 (cmp k1 k2) ∧ σ' = S) (ida idb idc : Nat) (hne : ida ≠ idb) (hnc : ida ≠ idc) (hnd : idb ≠ idc) (S : MS) (hA : S[ida]? = some (.cells [.lst none 3 (a.map (encR encC))])) (hB : S[idb]? = some (.cells [.lst none 3 (b.map (encR encC))])) (hC : S[idc]? = some (.cells [.fn (.func kc) [] []])) : MCalls Tryz.prog 273 [.fn (.func 303) [] [.ref ida 0, .ref idb 0, .ref idc 0]] S fun v σ' => v = .lst none 3 ((mergeE cmp a b).map (encE encC)) ∧ σ' = stJ cmp a b S ida idb (mergeE cmp a b).length := by
 refine zR Tryz.func273 V Tryz.ntmps273 (zA V) ?_
 refine zG1 fun _ hcl0 => ?_
 rw [List.append_nil]
 rw [List.append_nil] at hcl0
 refine zB <| qR V <| qA V V V <| qN <| zB <| qR V <| qM V V V ?_
 refine qX V V V V co302 (appendSeq_spec a b hab kc cmp hcc hcmp ida idb idc hne hnc hnd S hA hB hC) ?_
 refine qA V V V <| qN <| zH ?_
 exact ret_tmpT (.inr V) Tryz.results273 V (.refl _) (cl_lst (cl_entC _) (encE_one _)) (by simp [zH5]) (stJ_ClS (by rw [List.append_nil]; exact hcl0)) Vv
end Go.Proofs.YtciimaabeabkdaaGreatDoor
namespace Go.MV
open Go Go.RowKit
section
section
variable {P : Program} {rd : Option Nat} {o : Oper} {env : Env} {σ : MS} {K : MV → MS → Prop}
theorem op_ext {f : Operand} {args : Array Operand} {ts : Array TypeId} {k : FuncId} {xs : List MV} {vz : Value} {mz : MV} (ho : o.op = .call { callee := .value f, args := args, argTypes := ts }) (hf : evo env f = some (.fn (.func k) [] [])) (hx : evos env args.toList = some xs)
  (hrun : ∀ (g : Gh) (w : World) (vs : List Value), Rds g w xs vs → (callFunc k vs.toArray).run P w = .ok (.value vz) w) (hz : constMV vz = some mz) (h : K mz σ) : OpWp P rd o env σ K := by
 refine OpWp.of_run (by simp [ho]) fun g w a hr hop => ?_
 obtain ⟨us, vs, e, k1, k2⟩ := (hop f (by simp [ho, Op.operands, Call.operands]) _ hf).inv_fn
 have k3 : Rds g w xs (args.toList.map a.eval) := evos_rds (fun x hx m hm => hop x (by simp [ho, Op.operands, Call.operands]; exact .inr (by simpa using hx)) m hm) hx
 have e1 : us = [] := List.eq_nil_of_length_eq_zero k1.1
 have e2 : vs = [] := List.eq_nil_of_length_eq_zero k2.1
 subst e1 e2
 refine ⟨vz, w, ?_, .same h hr (zS5 _ _ hz)⟩
 have := hrun g w _ k3
 rw [← Array.toList_map, Array.toArray_toList] at this
 simp [execOp, ho, resolve, e, Deferred.ofValue, invoke, this]
theorem op_max3 {ts : Array TypeId} {x y z : Operand} {k : IntKind} {l m n r : Int} (ho : o.op = .call { callee := .builtin .max, args := #[x, y, z], argTypes := ts }) (hx : evo env x = some (.int k l)) (hy : evo env y = some (.int k m)) (hz : evo env z = some (.int k n)) (e : max (max l m) n = r) (h : K (.int k r) σ) : OpWp P rd o env σ K := by
 refine OpWp.of_run (by simp [ho]) fun g w a hr hop => ?_
 have e1 := (hop x (by simp [ho, Op.operands, Call.operands]) _ hx).inv_int
 have e2 := (hop y (by simp [ho, Op.operands, Call.operands]) _ hy).inv_int
 have e3 := (hop z (by simp [ho, Op.operands, Call.operands]) _ hz).inv_int
 have hm : ∀ a b : Int, (if b > a then b else a) = max a b := fun a b => by split <;> omega
 refine ⟨.int k r, w, ?_, .same h hr (.int _ _)⟩
 simp [execOp, ho, resolve, invoke, builtin, Builtin.max_, Builtin.max2, e1, e2, e3, hm, e]
end
abbrev cmpX (a b : Bs) : Int := Go.Lib.compareBytes a b
theorem run_cmpstr {P : Program} {k : FuncId} {fn : Func} (hf : P.funcs[k]? = some fn) (hname : (fn.name == "runtime.NumGoroutine") = false) (hb : fn.body.isNone = true) (hn : Extern.findNext fn = none) (he : Extern.find fn = some Extern.BytealgCompare.compare) (a b : Bs) (g : Gh) (w : World) (vs : List Value) (h : Rds g w [.str (bs a), .str (bs b)] vs) :
  (callFunc k vs.toArray).run P w = .ok (.value (.int .i64 (cmpX a b))) w := by
 obtain ⟨u, us, rfl, h1, h2⟩ := h.uncons
 obtain ⟨u2, us2, rfl, h3, h4⟩ := h2.uncons
 have e1 := h1.inv_str
 have e2 := h3.inv_str
 have e3 : us2 = [] := List.eq_nil_of_length_eq_zero h4.1
 subst e1 e2 e3
 rw [run_callFunc_extern hf hname hb hn he, Go.Lib.run_compareString]
 rfl
end
end Go.MV
namespace Go.Proofs.YtciimaabeabkdaaGreatDoor
open Go Go.MV Go.RowKit
section
section
variable {κ : Type}
def ofE (f : Val → Val → Option Val) (e : Ent κ) : Option Val := match e.2.2 with | none => some e.2.1 | some w => f e.2.1 w
def goE (f : Val → Val → Option Val) : List (Ent κ) → Option (List (κ × Val))
 | [] => some []
 | e :: l => match ofE f e with | none => none | some v => (goE f l).map ((e.1, v) :: ·)
theorem goE_append (f : Val → Val → Option Val) : ∀ a b : List (Ent κ), goE f (a ++ b) = (goE f a).bind fun x => (goE f b).map (x ++ ·)
 | [], b => by simp [goE]
 | e :: a, b => by
  rw [List.cons_append, goE, goE, goE_append f a b]
  cases ofE f e with
  | none => rfl
  | some v =>
   cases goE f a with
   | none => rfl
   | some x => cases goE f b <;> simp
theorem goE_len {f : Val → Val → Option Val} : ∀ {a : List (Ent κ)} {x}, goE f a = some x → x.length = a.length
 | [], x, h => by simp [goE] at h; subst h; rfl
 | e :: a, x, h => by
  rw [goE] at h
  cases ho : ofE f e with
  | none => rw [ho] at h; cases h
  | some v =>
   rw [ho] at h
   cases hg : goE f a with
   | none => rw [hg] at h; cases h
   | some y => rw [hg] at h; simp at h; subst h; simp [goE_len hg]
theorem mergeE_mem (cmp : κ → κ → Int) : ∀ (a b : List (REnt κ)) (e : Ent κ), e ∈ mergeE cmp a b → ((e.1, e.2.1) ∈ a ∨ (e.1, e.2.1) ∈ b) ∧ ∀ y, e.2.2 = some y → (e.1, e.2.1) ∈ a ∧ ∃ k, (k, y) ∈ b := by
 intro a b
 induction a, b using mergeE.induct cmp with
 | case1 => intro e h; simp [mergeE] at h
 | case2 x a ih =>
  intro e h
  rw [mergeE, List.mem_cons] at h
  rcases h with rfl | h
  ·exact ⟨.inl (.head _), fun y h => by cases h⟩
  ·obtain ⟨h1, h2⟩ := ih e h
   refine ⟨h1.imp (.tail _) id, fun y hy => ?_⟩
   obtain ⟨p, k, q⟩ := h2 y hy
   exact ⟨.tail _ p, k, q⟩
 | case3 y b ih =>
  intro e h
  rw [mergeE, List.mem_cons] at h
  rcases h with rfl | h
  ·exact ⟨.inr (.head _), fun y h => by cases h⟩
  ·obtain ⟨h1, h2⟩ := ih e h
   refine ⟨h1.imp id (.tail _), fun y hy => ?_⟩
   obtain ⟨p, k, q⟩ := h2 y hy
   exact ⟨p, k, .tail _ q⟩
 | case4 x a y b hlt ih =>
  intro e h
  rw [mergeE, if_pos hlt, List.mem_cons] at h
  rcases h with rfl | h
  ·exact ⟨.inl (.head _), fun y h => by cases h⟩
  ·obtain ⟨h1, h2⟩ := ih e h
   refine ⟨h1.imp (.tail _) id, fun y hy => ?_⟩
   obtain ⟨p, k, q⟩ := h2 y hy
   exact ⟨.tail _ p, k, q⟩
 | case5 x a y b hlt hgt ih =>
  intro e h
  rw [mergeE, if_neg hlt, if_pos hgt, List.mem_cons] at h
  rcases h with rfl | h
  ·exact ⟨.inr (.head _), fun y h => by cases h⟩
  ·obtain ⟨h1, h2⟩ := ih e h
   refine ⟨h1.imp id (.tail _), fun y hy => ?_⟩
   obtain ⟨p, k, q⟩ := h2 y hy
   exact ⟨p, k, .tail _ q⟩
 | case6 x a y b hlt hgt ih =>
  intro e h
  rw [mergeE, if_neg hlt, if_neg hgt, List.mem_cons] at h
  rcases h with rfl | h
  ·exact ⟨.inl (.head _), fun z h => by cases h; exact ⟨.head _, y.1, .head _⟩⟩
  ·obtain ⟨h1, h2⟩ := ih e h
   refine ⟨h1.imp (.tail _) (.tail _), fun y hy => ?_⟩
   obtain ⟨p, k, q⟩ := h2 y hy
   exact ⟨.tail _ p, k, .tail _ q⟩
end
def seenE (l : List (Ent (List Tk))) (e : Ent (List Tk)) : Bool := l.any fun o => decide (cmpF e.1 o.1 = -1)
def entC (v : Val) : List (REnt (List Tk)) := v.cv.zip v.vv
def entX (v : Val) : List (REnt Bs) := v.sv.zip v.vv
def mergedC (a b : Val) : List (Ent (List Tk)) := mergeE byTicksF (entC a) (entC b)
def mergedX (a b : Val) : List (Ent Bs) := mergeE cmpX (entX a) (entX b)
def causesF (f : Val → Val → Option Val) (a b : Val) : Option Val := (goE f ((mergedC a b).filter fun e => !seenE (mergedC a b) e)).map fun l => .mk 0 0 [] (l.map (·.1)) (l.map (·.2))
def mapsF (f : Val → Val → Option Val) (a b : Val) : Option Val := (goE f (mergedX a b)).map fun l => .mk 0 0 (l.map (·.1)) [] (l.map (·.2))
def goP : List (Val → Val → Option Val) → List Val → List Val → Option (List Val)
 | f :: fs, x :: a, y :: b => match f x y with | none => none | some v => (goP fs a b).map (v :: ·)
 | _, _, _ => some []
def pairF2 (fs : List (Val → Val → Option Val)) (a b : Val) : Option Val := (goP fs a.vv b.vv).map fun l => .mk 0 0 [] [] l
def laterC (a b : Val) : Int := if cmpI a.nv b.nv ≠ 0 then cmpI a.nv b.nv else if cmpI a.mv b.mv ≠ 0 then cmpI a.mv b.mv else cmpX (a.sv.headD []) (b.sv.headD [])
def laterF (a b : Val) : Val := if a.sv.length = 0 ∨ (0 < b.sv.length ∧ laterC a b < 0) then b else a
def clocksF (a b : Val) : Val := if a.cv.length = 0 then b else if b.cv.length = 0 then a else .mk 0 0 [] [joinF (a.cv.headD []) (b.cv.headD [])] []
def largeF (v : Val) : Bool := decide (40 < max (max v.sv.length v.cv.length) v.vv.length) || (match v.cv with | [c] => decide (40 < c.length) | _ => false)
def bothB (k : Int) (fs : List (Val → Val → Option Val)) (a b : Val) : Option Val :=
 if k = 1 ∨ k = 2 then some (.mk (max a.nv b.nv) 0 [] [] [])
 else if k = 3 then some (.mk 0 0 (bothX a.sv b.sv) [] [])
 else if k = 4 then mapsF (fs.headD fun _ _ => none) a b
 else if k = 5 then pairF2 fs a b
 else if k = 6 then some (laterF a b)
 else if k = 7 then some (clocksF a b)
 else causesF (fs.headD fun _ _ => none) a b
def capF (o : Option Val) : Option Val := o.bind fun v => if largeF v then none else some v
mutual
def bothF : Sch → Val → Val → Option Val
 | .mk k ins, a, b => capF (bothB k (bothL ins) a b)
def bothL : List Sch → List (Val → Val → Option Val)
 | [] => []
 | s :: l => bothF s :: bothL l
end
theorem bothF_mk (k : Int) (ins : List Sch) (a b : Val) : bothF (.mk k ins) a b = capF (bothB k (bothL ins) a b) := by rw [bothF]
theorem _root_.zM3 : type_of% @bothF_mk := @bothF_mk
theorem bothL_eq : ∀ l : List Sch, bothL l = l.map bothF
 | [] => by simp [bothL]
 | s :: l => by simp [bothL, bothL_eq l]
def encErr (n : Int) : MV := .iface 49 (.int .i64 n)
def errO : Option Val → MV
 | none => encErr 13
 | some _ => .iface0
theorem cl_errO (n : Nat) (o : Option Val) : Cl n (errO o) := by
 cases o
 ·exact .iface _ _ (.int _ _)
 ·exact .iface0
def encO (o : Option Val) : MV := .tup [encV (o.getD noV), errO o]
theorem encO_of (o : Option Val) : ∃ n m s c w, o.getD noV = .mk n m s c w := by
 cases o.getD noV with
 | mk n m s c w => exact ⟨n, m, s, c, w, rfl⟩
def encJ (o : Except Int Val) : MV := .tup [match o with | .error _ => encV noV | .ok v => encV v, match o with | .error n => encErr n | .ok _ => .iface0]
noncomputable def joinVF (s : Sch) (a b : Val) : Except Int Val :=
 if (isF 16 s && isVF s a) = true ∧ (isF 16 s && isVF s b) = true then (match bothF s a b with | some v => .ok v | none => .error 13) else .error 14
end
end Go.Proofs.YtciimaabeabkdaaGreatDoor
namespace Go.Proofs.YtciimaabeabkdaaGreatDoor
open Go Go.MV
theorem large_eq (n m : Int) (s : List Bs) (c : List (List Tk)) (w : List Val) : largeF (.mk n m s c w) = (decide (40 < max (max s.length c.length) w.length) || (decide (c.length = 1) && decide (40 < (c.headD []).length))) := by
 unfold largeF
 congr 1
 rcases c with _ | ⟨x, _ | ⟨y, c⟩⟩ <;> simp [Val.cv]
theorem or_three (a b c : Int) : orF [a, b, c] = if a ≠ 0 then a else if b ≠ 0 then b else c := by
 rw [or_cons, or_cons, or_cons]
 by_cases ha : a = 0 <;> by_cases hb : b = 0 <;> by_cases hc : c = 0 <;> simp [ha, hb, hc, orF]
theorem jTicks1_spec (x y : Tk) (S : MS) : MCalls Tryz.prog 304 [encT x, encT y] S fun v σ' => v = .int .i64 (tickC x y) ∧ σ' = S := by
 refine zR Tryz.func304 V Tryz.ntmps304 (zA V) ?_
 refine zB <| qR V <| qB V V V V V <| qB V V V V V <| qA V V V <| qN <| zB ?_
 refine zW0 [] [_] mo (by decide) V V V V ?_
 refine dO V V V (zG V V zD5 Vv) <| dO V V V (zN0 V V V ta3 V Vv) <| dO V V V (zG V V zD5 Vv) <| dO V V V (zN0 V V V ta3 V Vv) <| zN V V (.cons (zT0 V V V co166 (compare_spec x.1 y.1 _)) .nil) <| dO V V V (zG V V fo262_1 Vv) <| dO V V V (zN0 V V V ta22 V Vv) <| dO V V V (zG V V fo262_1 Vv) <| dO V V V (zN0 V V V ta22 V Vv) <| zN V V (.cons (zT0 V V V co271 (compareu_spec x.2 y.2 _)) .nil) <| dO V V V (zL1 V zN5 el3 V V (by decide) (by decide) V V Vv) ?_
 refine zN V V (.cons (zT0 V V V co270 (cmpOr_spec [cmpI x.1 y.1, cmpI x.2 y.2] _)) .nil) <| dO V V V (zZ0 V V Vv) <| zQ0 <| zH ?_
 exact zT (.inr V) Tryz.results304 V (.of_eq (by rw [or_two]; rfl)) (.int _ _) Vv
theorem jCmpFunc_spec (a b : List Tk) (S : MS) : MCalls Tryz.prog 287 [.lst none 2 (a.map encT), .lst none 2 (b.map encT), .fn (.func 304) [] []] S fun v σ' => v = .int .i64 (byTicksF a b) ∧ σ' = S := by
 refine zR Tryz.func287 V Tryz.ntmps287 (zA V) ?_
 refine zZ3 (t := 0) V fun hlen => ?_
 rw [zF] at hlen
 refine zB <| qR V <| qA V V V <| qN <| zB <| zB <| qR V <| qM V V V <| qE V V zC0 V <| qM V V V <| qN <| zB0 ?_
 refine zO4 (α := Nat) [(0, _), (1, _), (2, _), (11, _), (12, _)] (fun i => [(13, .int .i64 (i : Int))]) (fun i => []) (fun i => i ≤ a.length ∧ i ≤ b.length ∧ byTicksF (a.drop i) (b.drop i) = byTicksF a b) (fun i => a.length - i) (0) (Nat.le_refl _) (.keep V (.keep V (.keep V (.keep V (.keep V (.nil)))))) (.keep V (.nil)) (⟨by omega, by omega, rfl⟩) (V) ?_
 rintro i ⟨hi, hib, he⟩
 refine zB <| qR V <| qC V V V V V <| qN <| zB ?_
 refine zM V (fun h14 => ?_) (fun h14 => ?_)
 ·
  have hlt : i < a.length := by simpa using h14
  obtain ⟨x, hs⟩ : ∃ q_, a[i]? = some q_ := ⟨_, zC hlt⟩
  refine zX <| zB <| zB0 <| zB <| qR V <| qM V V V <| qO V <| zI V zC0 sz262 (by decide) V V V (zM1 hs) ?_
  refine qO V <| zL V V ta262 V <| qO V <| zM0 V zm262 V V <| qA V V V <| qO V <| zZ V V V V sz262 V V (zA V) V <| qN <| zB <| zB <| qR V <| qM V V V <| qM V V V <| qE V V zC0 V <| qC V V V V V <| qN ?_
  refine zM V (fun h21 => ?_) (fun h21 => ?_)
  ·
   have hbe : b.drop i = [] := by rw [zF] at h21; simp at h21; exact List.drop_eq_nil_of_le (by omega)
   refine zB <| qR V <| qA V V V <| qN <| zH ?_
   exact zT (.inr V) zD4 V (.of_eq (by rw [← he, hbe, drop_at hs]; rfl)) (.int _ _) Vv
  ·
   have hltb : i < b.length := by rw [zF] at h21; simp at h21; omega
   obtain ⟨y, hs2⟩ : ∃ s, b[i]? = some s := ⟨_, zC hltb⟩
   refine zX <| zB <| qR V <| qM V V V <| qM V V V <| qO V <| zI V zC0 sz262 (by decide) V V V (zM1 hs2) ?_
   refine qO V <| zL V V ta262 V <| qO V <| zM0 V zm262 V V <| qO V <| zZ V V V V sz262 V V (zA V) V <| qN <| zB <| qR V <| qM V V V <| qL V V V V ta262 V <| qL V V V V ta262 V ?_
   refine qX V V V V co304 (jTicks1_spec x y _) ?_
   refine qA V V V <| qN <| zB <| qR V <| qM V V V <| qC V V V V V <| qN ?_
   refine zM V (fun h31 => ?_) (fun h31 => ?_)
   ·
    refine zB <| qR V <| qM V V V <| qA V V V <| qN <| zH ?_
    exact zT (.inr V) zD4 V (.of_eq (by rw [← he, ticks_at hs hs2, if_pos (by simpa using h31)])) (.int _ _) Vv
   ·
    refine zX <| qR V <| qO V <| zH1 V V V V <| qM V V V <| qN ?_
    refine ⟨i + 1, _, by omega, ⟨by omega, by omega, by rw [← he, ticks_at hs hs2, if_neg (by simpa using h31)]⟩, rfl, .nil, (.old V V (.old V V (.old V V (.old V V (.old V V (.nil)))))), (.new' V (zH2 hlt hlen) (.int _ _) (.nil))⟩
 ·
  have hge : i = a.length := by simp at h14; omega
  refine zV1 <| zB <| zB <| qR V <| qM V V V <| qE V V zC0 V <| qM V V V <| qE V V zC0 V <| qC V V V V V <| qN ?_
  refine zM V (fun h38 => ?_) (fun h38 => ?_)
  ·
   refine zB <| qR V <| qA V V V <| qN <| zH ?_
   exact zT (.inr V) zD4 V (.of_eq (by simp at h38; rw [← he, hge, List.drop_length, drop_at (zC (by omega : a.length < b.length))]; rfl)) (.int _ _) Vv
  ·
   refine zX <| zB <| qR V <| qA V V V <| qN <| zH ?_
   exact zT (.inr V) zD4 V (.of_eq (by simp at h38; rw [← he, hge, List.drop_length, List.drop_eq_nil_of_le (by omega : b.length ≤ a.length)]; rfl)) (.int _ _) Vv
theorem jTicks_spec (a b : List Tk) (S : MS) : MCalls Tryz.prog 276 [.lst none 2 (a.map encT), .lst none 2 (b.map encT)] S fun v σ' => v = .int .i64 (byTicksF a b) ∧ σ' = S := by
 refine zR Tryz.func276 V Tryz.ntmps276 (zA V) ?_
 refine zB <| qR V <| qA V V V <| qN <| zB <| qR V <| qM V V V <| qM V V V ?_
 refine qX V V V V co287 (jCmpFunc_spec a b _) ?_
 refine qA V V V <| qN <| zH ?_
 exact zT (.inr V) Tryz.results276 V (.of_eq (V)) (.int _ _) Vv
theorem cmpString_spec (a b : Bs) (S : MS) : MCalls Tryz.prog 297 [encX a, encX b] S fun v σ' => v = .int .i64 (cmpX a b) ∧ σ' = S := by
 refine zR Tryz.func297 V Tryz.ntmps297 (zA V) ?_
 refine zB <| qR V <| qA V V V <| qN <| zB <| qR V <| qM V V V <| qM V V V <| qO V <| op_ext V V V (fun g w vs h => run_cmpstr Tryz.func308 (by kernel_rfl) (by kernel_rfl) (by kernel_rfl) (by kernel_rfl) a b g w vs h) V ?_
 refine qA V V V <| qN <| zH ?_
 exact zT (.inr V) Tryz.results297 V (.of_eq (V)) (.int _ _) Vv
theorem strCmp_spec (a b : Bs) (S : MS) : MCalls Tryz.prog 268 [encX a, encX b] S fun v σ' => v = .int .i64 (cmpX a b) ∧ σ' = S := by
 refine zR Tryz.func268 V Tryz.ntmps268 (zA V) ?_
 refine zB <| qR V <| qA V V V <| qN <| zB <| qR V <| qM V V V <| qM V V V ?_
 refine zM4 V (zT0 V V V ⟨_, _, Tryz.func297, by kernel_rfl, rfl⟩ ((cmpString_spec a b _).mono ?_))
 rintro _ _ ⟨rfl, rfl⟩
 refine qA V V V <| qN <| zH ?_
 exact zT (.inr V) Tryz.results268 V (.of_eq (V)) (.int _ _) Vv
theorem cof_none (k : List Tk) (k1 : Int) (i1 : List Sch) (n m : Int) (s : List Bs) (c : List (List Tk)) (w : List Val) (S : MS) : MCalls Tryz.prog 279 [encS (.mk k1 i1), encE encC (k, .mk n m s c w, none)] S fun v σ' => v = encO (some (.mk n m s c w)) ∧ σ' = S := by
 refine zR Tryz.func279 V Tryz.ntmps279 (zA V) ?_
 refine zB <| qR V <| qB V V V V V <| qB V V V V V <| qO V <| zM0 V zm27 V V <| qA V V V <| qN <| zB <| zB <| qR V <| qF V V V fo332_2 <| qL V V V V ta323 V <| qO V <| op_ptr0 V Tryz.underlying323 V V (.inl Vv) <| qN <| zU V (V) <| zB <| qR V <| qF V V V fo332_1 <| qL V V V V ta323 V <| qO V <| zY0 V V V ?_
 refine qO V <| zL V V ta27 V <| qO V <| zZ V V V V sz27 V V (zA V) V <| qA V V V <| qN <| zH ?_
 exact zJ1 (.inr V) Tryz.results279 V V ta27 V (.refl _) (zO1 _ (.mk n m s c w)) V (.refl _) .iface0 Vv
theorem cof_some (k : List Tk) (k1 : Int) (i1 : List Sch) (n m : Int) (s : List Bs) (c : List (List Tk)) (w : List Val) (n2 m2 : Int) (s2 : List Bs) (c2 : List (List Tk)) (w2 : List Val) (o : Option Val) (hb : ∀ S : MS, MCalls Tryz.prog 188 [encS (.mk k1 i1), encV (.mk n m s c w), encV (.mk n2 m2 s2 c2 w2)] S fun v σ' => v = encO o ∧ σ' = S) (S : MS) : MCalls Tryz.prog 279 [encS (.mk k1 i1), encE encC (k, .mk n m s c w, some (.mk n2 m2 s2 c2 w2))] S fun v σ' => v = encO o ∧ σ' = S := by
 obtain ⟨n3, m3, s3, c3, w3, h3⟩ := encO_of o
 have hO : encO o = .tup [encV (.mk n3 m3 s3 c3 w3), errO o] := by rw [encO, h3]
 rw [hO] at hb
 refine zR Tryz.func279 V Tryz.ntmps279 (zA V) ?_
 refine zB <| qR V <| qB V V V V V <| qB V V V V V <| qO V <| zM0 V zm27 V V <| qA V V V <| qN <| zB <| zB <| qR V <| qF V V V fo332_2 <| qL V V V V ta323 V <| qO V <| op_ptrnil V Tryz.underlying323 V V V (.inl Vv) <| qN <| zK V (V) <| zX <| zB ?_
 refine zW0 [12] [_, S ++ [.cells (encS (.mk k1 i1)).cells, .cells (encE encC (k, .mk n m s c w, some (.mk n2 m2 s2 c2 w2))).cells, .cells (encV (.mk n3 m3 s3 c3 w3)).cells]] mo (by decide) V V V V ?_
 refine dO V V V (zN0 V V V ta53 V Vv) <| dO V V V (zG V V fo332_1 Vv) <| dO V V V (zN0 V V V ta323 V Vv) <| dO V V V (zY0 V V V Vv) <| dO V V V (zL V V ta27 V Vv) <| dO V V V (zG V V fo332_2 Vv) <| dO V V V (zN0 V V V ta323 V Vv) <| dO V V V (zY0 V V V Vv) <| dO V V V (zL V V ta27 V Vv) <| zN V V (.cons (zT0 V V V co188 (hb _)) .nil) <| dO V V V (zS V V V Vv) <| dO V V V (zS V V V Vv) <| zV0 V V V V (zZ V V V V sz27 V V (zA V) V Vv) <| dO V V V (zZ0 V V Vv) <| zQ0 <| zH ?_
 exact zJ1 (.inr V) Tryz.results279 V V ta27 V (.refl _) (zO1 _ (.mk n3 m3 s3 c3 w3)) V (.refl _) (cl_errO _ _) ⟨hO.symm, rfl⟩
theorem cof_spec (k1 : Int) (i1 : List Sch) (f : Val → Val → Option Val) (e : Ent (List Tk)) (hb : ∀ y, e.2.2 = some y → ∀ S : MS, MCalls Tryz.prog 188 [encS (.mk k1 i1), encV e.2.1, encV y] S fun v σ' => v = encO (f e.2.1 y) ∧ σ' = S) (S : MS) : MCalls Tryz.prog 279 [encS (.mk k1 i1), encE encC e] S fun v σ' => v = encO (ofE f e) ∧ σ' = S := by
 obtain ⟨k, ⟨n, m, s, c, w⟩, o⟩ := e
 cases o with
 | none => exact cof_none k k1 i1 n m s c w S
 | some y =>
  obtain ⟨n2, m2, s2, c2, w2⟩ := y
  exact cof_some k k1 i1 n m s c w n2 m2 s2 c2 w2 _ (hb _ rfl) S
theorem xof_none (k : Bs) (k1 : Int) (i1 : List Sch) (n m : Int) (s : List Bs) (c : List (List Tk)) (w : List Val) (S : MS) : MCalls Tryz.prog 269 [encS (.mk k1 i1), encE encX (k, .mk n m s c w, none)] S fun v σ' => v = encO (some (.mk n m s c w)) ∧ σ' = S := by
 refine zR Tryz.func269 V Tryz.ntmps269 (zA V) ?_
 refine zB <| qR V <| qB V V V V V <| qB V V V V V <| qO V <| zM0 V zm27 V V <| qA V V V <| qN <| zB <| zB <| qR V <| qF V V V fo325_2 <| qL V V V V ta323 V <| qO V <| op_ptr0 V Tryz.underlying323 V V (.inl Vv) <| qN <| zU V (V) <| zB <| qR V <| qF V V V fo325_1 <| qL V V V V ta323 V <| qO V <| zY0 V V V ?_
 refine qO V <| zL V V ta27 V <| qO V <| zZ V V V V sz27 V V (zA V) V <| qA V V V <| qN <| zH ?_
 exact zJ1 (.inr V) Tryz.results269 V V ta27 V (.refl _) (zO1 _ (.mk n m s c w)) V (.refl _) .iface0 Vv
theorem xof_some (k : Bs) (k1 : Int) (i1 : List Sch) (n m : Int) (s : List Bs) (c : List (List Tk)) (w : List Val) (n2 m2 : Int) (s2 : List Bs) (c2 : List (List Tk)) (w2 : List Val) (o : Option Val) (hb : ∀ S : MS, MCalls Tryz.prog 188 [encS (.mk k1 i1), encV (.mk n m s c w), encV (.mk n2 m2 s2 c2 w2)] S fun v σ' => v = encO o ∧ σ' = S) (S : MS) : MCalls Tryz.prog 269 [encS (.mk k1 i1), encE encX (k, .mk n m s c w, some (.mk n2 m2 s2 c2 w2))] S fun v σ' => v = encO o ∧ σ' = S := by
 obtain ⟨n3, m3, s3, c3, w3, h3⟩ := encO_of o
 have hO : encO o = .tup [encV (.mk n3 m3 s3 c3 w3), errO o] := by rw [encO, h3]
 rw [hO] at hb
 refine zR Tryz.func269 V Tryz.ntmps269 (zA V) ?_
 refine zB <| qR V <| qB V V V V V <| qB V V V V V <| qO V <| zM0 V zm27 V V <| qA V V V <| qN <| zB <| zB <| qR V <| qF V V V fo325_2 <| qL V V V V ta323 V <| qO V <| op_ptrnil V Tryz.underlying323 V V V (.inl Vv) <| qN <| zK V (V) <| zX <| zB ?_
 refine zW0 [12] [_, S ++ [.cells (encS (.mk k1 i1)).cells, .cells (encE encX (k, .mk n m s c w, some (.mk n2 m2 s2 c2 w2))).cells, .cells (encV (.mk n3 m3 s3 c3 w3)).cells]] mo (by decide) V V V V ?_
 refine dO V V V (zN0 V V V ta53 V Vv) <| dO V V V (zG V V fo325_1 Vv) <| dO V V V (zN0 V V V ta323 V Vv) <| dO V V V (zY0 V V V Vv) <| dO V V V (zL V V ta27 V Vv) <| dO V V V (zG V V fo325_2 Vv) <| dO V V V (zN0 V V V ta323 V Vv) <| dO V V V (zY0 V V V Vv) <| dO V V V (zL V V ta27 V Vv) <| zN V V (.cons (zT0 V V V co188 (hb _)) .nil) <| dO V V V (zS V V V Vv) <| dO V V V (zS V V V Vv) <| zV0 V V V V (zZ V V V V sz27 V V (zA V) V Vv) <| dO V V V (zZ0 V V Vv) <| zQ0 <| zH ?_
 exact zJ1 (.inr V) Tryz.results269 V V ta27 V (.refl _) (zO1 _ (.mk n3 m3 s3 c3 w3)) V (.refl _) (cl_errO _ _) ⟨hO.symm, rfl⟩
theorem xof_spec (k1 : Int) (i1 : List Sch) (f : Val → Val → Option Val) (e : Ent (Bs)) (hb : ∀ y, e.2.2 = some y → ∀ S : MS, MCalls Tryz.prog 188 [encS (.mk k1 i1), encV e.2.1, encV y] S fun v σ' => v = encO (f e.2.1 y) ∧ σ' = S) (S : MS) : MCalls Tryz.prog 269 [encS (.mk k1 i1), encE encX e] S fun v σ' => v = encO (ofE f e) ∧ σ' = S := by
 obtain ⟨k, ⟨n, m, s, c, w⟩, o⟩ := e
 cases o with
 | none => exact xof_none k k1 i1 n m s c w S
 | some y =>
  obtain ⟨n2, m2, s2, c2, w2⟩ := y
  exact xof_some k k1 i1 n m s c w n2 m2 s2 c2 w2 _ (hb _ rfl) S
theorem eIndex_spec (S : MS) (l : List (Ent (List Tk))) (p : Ent (List Tk) → Bool) (kf : FuncId) (first caps : List MV) (hco : CallOk Tryz.prog kf) (hp : ∀ x ∈ l, ∀ X : MS, MCalls Tryz.prog kf (first ++ [encE encC x] ++ caps) (S ++ X) fun v σ' => v = .bool (p x) ∧ σ' = S ++ X) : MCalls Tryz.prog 305 [.lst none 3 (l.map (encE encC)), .fn (.func kf) first caps] S fun v σ' => v = .int .i64 (findGo p 0 l) ∧ σ' = S := by
 refine zR Tryz.func305 V Tryz.ntmps305 (zA V) ?_
 refine zZ3 (t := 0) V fun hlen => ?_
 rw [zF] at hlen
 refine zB <| qR V <| qA V V V <| qN <| zB <| zB <| qR V <| qM V V V <| qE V V zK0 V <| qM V V V <| qN <| zB0 ?_
 refine zK2 (α := Nat) [(0, _), (1, _), (7, _)] (fun i => [(8, .int .i64 (i : Int))]) (fun i => []) (fun i => i ≤ l.length ∧ findGo p i (l.drop i) = findGo p 0 l) (fun i => l.length - i) (0) (.keep V (.keep V (.keep V (.nil)))) (.keep V (.nil)) (⟨by omega, rfl⟩) (V) ?_
 rintro i ⟨hi, he⟩
 refine zB <| qR V <| qC V V V V V <| qN <| zB ?_
 refine zM V (fun h9 => ?_) (fun h9 => ?_)
 ·
  have hlt : i < l.length := by simpa using h9
  obtain ⟨x, hs⟩ : ∃ q_, l[i]? = some q_ := ⟨_, zC hlt⟩
  refine zX <| zB <| zB0 <| zB <| qR V <| qM V V V <| qA V V V <| qN <| zB <| qR V <| qM V V V <| qM V V V <| qM V V V <| qO V <| zI V zK0 sz332 (by decide) V V V (zM1 hs) ?_
  refine qO V <| zL V V ta332 V ?_
  refine zM4 V (zT0 V V V hco ((hp _ (zW hs) _).mono ?_))
  rintro _ _ ⟨rfl, rfl⟩
  refine qN ?_
  refine zM V (fun h16 => ?_) (fun h16 => ?_)
  ·
   refine zB <| qR V <| qM V V V <| qA V V V <| qN <| zH ?_
   exact zT (.inr V) Tryz.results305 V (.of_eq (by rw [← he, find_at hs, h16]; rfl)) (.int _ _) Vv
  ·
   refine zX <| qR V <| qO V <| zH1 V V V V <| qM V V V <| qN ?_
   refine ⟨i + 1, by omega, ⟨by omega, by rw [← he, find_at hs, h16]; rfl⟩, rfl, (.keep V (.keep V (.keep V (.nil)))), (.eq V (zH2 hlt hlen) (.nil))⟩
 ·
  have hge : i = l.length := by simp at h9; omega
  refine zV1 <| zB <| qR V <| qA V V V <| qN <| zH ?_
  exact zT (.inr V) Tryz.results305 V (.of_eq (by rw [← he, hge, List.drop_length]; rfl)) (.int _ _) Vv
theorem eContains_spec (S : MS) (l : List (Ent (List Tk))) (p : Ent (List Tk) → Bool) (kf : FuncId) (first caps : List MV) (hco : CallOk Tryz.prog kf) (hp : ∀ x ∈ l, ∀ X : MS, MCalls Tryz.prog kf (first ++ [encE encC x] ++ caps) (S ++ X) fun v σ' => v = .bool (p x) ∧ σ' = S ++ X) : MCalls Tryz.prog 277 [.lst none 3 (l.map (encE encC)), .fn (.func kf) first caps] S fun v σ' => v = .bool (l.any p) ∧ σ' = S := by
 refine zR Tryz.func277 V Tryz.ntmps277 (zA V) ?_
 refine zB <| qR V <| qA V V V <| qN <| zB <| qR V <| qM V V V <| qM V V V ?_
 refine qX V V V V co305 (eIndex_spec (S ++ []) l p kf first caps hco (by rw [List.append_nil]; exact hp)) ?_
 refine qC V V V V V <| qA V V V <| qN <| zH ?_
 exact zT (.inr V) Tryz.results277 V (.of_eq (by rw [find_any p 0 l])) (.bool _) Vv
theorem causes1_spec (e o : Ent (List Tk)) (h : e.1.length + o.1.length ≤ 1000000) (id : Nat) (S : MS) (hS : S[id]? = some (.cells (encE encC e).cells)) : MCalls Tryz.prog 278 [encE encC o, .ref id 0] S fun v σ' => v = .bool (decide (cmpF e.1 o.1 = -1)) ∧ σ' = S := by
 refine zR Tryz.func278 V Tryz.ntmps278 (zA V) ?_
 refine zB <| qR V <| qB V V V V V <| qA V V V <| qN <| zB <| qR V <| qF V V V zQ5 <| qO V <| zA2 V V hS ta202 V <| qF V V V zQ5 <| qL V V V V ta202 V ?_
 refine qX V V V V co252 (clkCmp_spec e.1 o.1 h _) ?_
 refine qC V V V V V <| qA V V V <| qN <| zH ?_
 exact zT (.inr V) Tryz.results278 V (.of_eq (V)) (.bool _) Vv
theorem isLarge_spec (n m : Int) (s : List Bs) (c : List (List Tk)) (w : List Val) (S : MS) : MCalls Tryz.prog 234 [encV (.mk n m s c w)] S fun v σ' => v = .bool (largeF (.mk n m s c w)) ∧ σ' = S := by
 refine zR Tryz.func234 V Tryz.ntmps234 (zA V) ?_
 refine zB <| qR V <| qB V V V V V <| qA V V V <| qN <| zB <| qR V <| qF V V V zZ2 <| qL V V V V ta23 V <| qE V V zE0 V <| qF V V V zO2 <| qL V V V V ta24 V <| qE V V zD0 V <| qF V V V zG2 <| qL V V V V ta25 V <| qE V V zG0 V ?_
 rw [zX0, zF, zF]
 refine qO V <| op_max3 V V V V V <| qC V V V V V <| qM V V V ?_
 refine zH0 (fun h14 => ?_) (fun h14 => ?_)
 ·
  refine qT V V V V <| qT V V V V <| qT V V V V <| qP V V V V <| qA V V V <| qN <| zH ?_
  exact zT (.inr V) Tryz.results234 V (.of_eq (by rw [large_eq]; congr 1; rw [zP]; first | (simp_all; done) | (simp_all; omega))) (.bool _) Vv
 ·
  refine qF V V V zO2 <| qL V V V V ta24 V <| qE V V zD0 V <| qC V V V V V <| qM V V V ?_
  refine zH0 (fun h19 => ?_) (fun h19 => ?_)
  ·
   obtain ⟨c0, rfl⟩ := one_of (by rw [zF] at h19; simp at h19; omega : c.length = 1)
   refine qF V V V zO2 <| qL V V V V ta24 V <| qO V <| zI V zD0 sz202 (by decide) V V V (show _ = some (encC c0) from V) ?_
   refine qO V <| zL V V ta202 V <| qE V V zC0 V <| qC V V V V V <| qP V V V V <| qP V V V V <| qA V V V <| qN <| zH ?_
   exact zT (.inr V) Tryz.results234 V (.of_eq (by rw [large_eq]; congr 1; rw [zP]; first | (simp_all; done) | (simp_all; omega))) (.bool _) Vv
  ·
   refine qT V V V V <| qS V <| qS V <| qP V V V V <| qP V V V V <| qA V V V <| qN <| zH ?_
   exact zT (.inr V) Tryz.results234 V (.of_eq (by rw [large_eq]; congr 1; rw [zP]; first | (simp_all; done) | (simp_all; omega))) (.bool _) Vv
theorem _root_.zR4 : type_of% @isLarge_spec := @isLarge_spec
theorem later_spec (n1 m1 : Int) (s1 : List Bs) (c1 : List (List Tk)) (w1 : List Val) (n2 m2 : Int) (s2 : List Bs) (c2 : List (List Tk)) (w2 : List Val) (S : MS) : MCalls Tryz.prog 231 [encV (.mk n1 m1 s1 c1 w1), encV (.mk n2 m2 s2 c2 w2)] S fun v σ' => v = encV (laterF (.mk n1 m1 s1 c1 w1) (.mk n2 m2 s2 c2 w2)) ∧ σ' = S := by
 refine zR Tryz.func231 V Tryz.ntmps231 (zA V) ?_
 refine zB <| qR V <| qB V V V V V <| qB V V V V V <| qO V <| zM0 V zm27 V V <| qN <| zB <| zB ?_
 rcases s1 with _ | ⟨x, s1⟩ <;> rcases s2 with _ | ⟨y, s2⟩
 ·
  refine zW0 [] [_] mo (by decide) V V V V ?_
  refine dO V V V (zG V V zZ2 Vv) <| dO V V V (zN0 V V V ta23 V Vv) <| dO V V V (zU1 V zE0 V Vv) <| dO V V V (zR2 V V V (eq_nil) Vv) <| dO V V V (zY V V Vv) <| dS V V <| dS V V <| dS V V <| dS V V <| dS V V <| dS V V <| dS V V <| dS V V <| dS V V <| dS V V <| dS V V <| dS V V <| dS V V <| dS V V <| dS V V <| dS V V <| dS V V <| dS V V <| dS V V <| dS V V <| dS V V <| dS V V <| dS V V <| dS V V <| dS V V ?_
  refine dS V V <| dS V V <| dS V V <| dO V V V (zP1 V V V Vv) <| zQ0 <| zU V (V) <| zB <| qR V <| qL V V V V ta27 V <| qO V <| zZ V V V V sz27 V V (zA V) V <| qN <| zH ?_
  exact zF3 (.inr V) Tryz.results231 V V ta27 V (.refl _) (zO1 _ (.mk n2 m2 [] c2 w2)) ⟨by rw [show laterF (.mk n1 m1 [] c1 w1) (.mk n2 m2 [] c2 w2) = .mk n2 m2 [] c2 w2 from if_pos (.inl V)]; rfl, rfl⟩
 ·
  refine zW0 [] [_] mo (by decide) V V V V ?_
  refine dO V V V (zG V V zZ2 Vv) <| dO V V V (zN0 V V V ta23 V Vv) <| dO V V V (zU1 V zE0 V Vv) <| dO V V V (zR2 V V V (eq_nil) Vv) <| dO V V V (zY V V Vv) <| dS V V <| dS V V <| dS V V <| dS V V <| dS V V <| dS V V <| dS V V <| dS V V <| dS V V <| dS V V <| dS V V <| dS V V <| dS V V <| dS V V <| dS V V <| dS V V <| dS V V <| dS V V <| dS V V <| dS V V <| dS V V <| dS V V <| dS V V <| dS V V <| dS V V ?_
  refine dS V V <| dS V V <| dS V V <| dO V V V (zP1 V V V Vv) <| zQ0 <| zU V (V) <| zB <| qR V <| qL V V V V ta27 V <| qO V <| zZ V V V V sz27 V V (zA V) V <| qN <| zH ?_
  exact zF3 (.inr V) Tryz.results231 V V ta27 V (.refl _) (zO1 _ (.mk n2 m2 (y :: s2) c2 w2)) ⟨by rw [show laterF (.mk n1 m1 [] c1 w1) (.mk n2 m2 (y :: s2) c2 w2) = .mk n2 m2 (y :: s2) c2 w2 from if_pos (.inl V)]; rfl, rfl⟩
 ·
  refine zW0 [] [_] mo (by decide) V V V V ?_
  refine dO V V V (zG V V zZ2 Vv) <| dO V V V (zN0 V V V ta23 V Vv) <| dO V V V (zU1 V zE0 V Vv) <| dO V V V (zR2 V V V (eq_cons) Vv) <| dO V V V (zY V V Vv) <| dO V V V (zG V V zZ2 Vv) <| dO V V V (zN0 V V V ta23 V Vv) <| dO V V V (zU1 V zE0 V Vv) <| dO V V V (zR2 V V V (gt_nil) Vv) <| dO V V V (zY V V Vv) <| dS V V <| dS V V <| dS V V <| dS V V <| dS V V <| dS V V <| dS V V <| dS V V <| dS V V <| dS V V <| dS V V <| dS V V <| dS V V <| dS V V <| dS V V <| dS V V <| dS V V <| dS V V <| dS V V <| dS V V ?_
  refine dS V V <| dS V V <| dO V V V (zP1 V V V Vv) <| dO V V V (zP1 V V V Vv) <| zQ0 <| zK V (V) <| zX <| zB <| qR V <| qL V V V V ta27 V <| qO V <| zZ V V V V sz27 V V (zA V) V <| qN <| zH ?_
  exact zF3 (.inr V) Tryz.results231 V V ta27 V (.refl _) (zO1 _ (.mk n1 m1 (x :: s1) c1 w1)) ⟨by rw [show laterF (.mk n1 m1 (x :: s1) c1 w1) (.mk n2 m2 [] c2 w2) = .mk n1 m1 (x :: s1) c1 w1 from if_neg (by simp [Val.sv])]; rfl, rfl⟩
 ·
  refine zW0 [] [_] mo (by decide) V V V V ?_
  refine dO V V V (zG V V zZ2 Vv) <| dO V V V (zN0 V V V ta23 V Vv) <| dO V V V (zU1 V zE0 V Vv) <| dO V V V (zR2 V V V (eq_cons) Vv) <| dO V V V (zY V V Vv) <| dO V V V (zG V V zZ2 Vv) <| dO V V V (zN0 V V V ta23 V Vv) <| dO V V V (zU1 V zE0 V Vv) <| dO V V V (zR2 V V V (gt_cons) Vv) <| dO V V V (zY V V Vv) <| dO V V V (zG V V zX3 Vv) <| dO V V V (zN0 V V V ta22 V Vv) <| dO V V V (zG V V zX3 Vv) <| dO V V V (zN0 V V V ta22 V Vv) <| zN V V (.cons (zT0 V V V co271 (compareu_spec n1 n2 _)) .nil) <| dO V V V (zG V V fo27_1 Vv) <| dO V V V (zN0 V V V ta22 V Vv) <| dO V V V (zG V V fo27_1 Vv) <| dO V V V (zN0 V V V ta22 V Vv) <| zN V V (.cons (zT0 V V V co271 (compareu_spec m1 m2 _)) .nil) <| dO V V V (zG V V zZ2 Vv) <| dO V V V (zN0 V V V ta23 V Vv) <| dO V V V (zI V zE0 sz9 (by decide) V V V (show _ = some (encX x) from V) Vv) ?_
  refine dO V V V (zL V V ta9 V Vv) <| dO V V V (zG V V zZ2 Vv) <| dO V V V (zN0 V V V ta23 V Vv) <| dO V V V (zI V zE0 sz9 (by decide) V V V (show _ = some (encX y) from V) Vv) ?_
  refine dO V V V (zL V V ta9 V Vv) <| zN V V (.cons (zT0 V V V co268 (strCmp_spec x y _)) .nil) <| dO V V V (zL1 V zN5 el3 V V (by decide) (by decide) V V Vv) ?_
  refine zN V V (.cons (zT0 V V V co270 (cmpOr_spec [cmpI n1 n2, cmpI m1 m2, cmpX x y] _)) .nil) <| dO V V V (zR2 V V V V Vv) <| dO V V V (zP1 V V V Vv) <| dO V V V (zP1 V V V Vv) <| zQ0 ?_
  refine zM V (fun h38 => ?_) (fun h38 => ?_)
  ·
   refine zB <| qR V <| qL V V V V ta27 V <| qO V <| zZ V V V V sz27 V V (zA V) V <| qN <| zH ?_
   exact zF3 (.inr V) Tryz.results231 V V ta27 V (.refl _) (zO1 _ (.mk n2 m2 (y :: s2) c2 w2)) ⟨by rw [show laterF (.mk n1 m1 (x :: s1) c1 w1) (.mk n2 m2 (y :: s2) c2 w2) = .mk n2 m2 (y :: s2) c2 w2 from if_pos (.inr ⟨by simp [Val.sv], by rw [or_three] at h38; simpa [laterC, Val.nv, Val.mv, Val.sv] using h38⟩)]; rfl, rfl⟩
  ·
   refine zX <| zB <| qR V <| qL V V V V ta27 V <| qO V <| zZ V V V V sz27 V V (zA V) V <| qN <| zH ?_
   exact zF3 (.inr V) Tryz.results231 V V ta27 V (.refl _) (zO1 _ (.mk n1 m1 (x :: s1) c1 w1)) ⟨by rw [show laterF (.mk n1 m1 (x :: s1) c1 w1) (.mk n2 m2 (y :: s2) c2 w2) = .mk n1 m1 (x :: s1) c1 w1 from if_neg (by rw [or_three] at h38; simpa [laterC, Val.nv, Val.mv, Val.sv] using h38)]; rfl, rfl⟩
theorem clocks_spec (n1 m1 : Int) (s1 : List Bs) (c1 : List (List Tk)) (w1 : List Val) (n2 m2 : Int) (s2 : List Bs) (c2 : List (List Tk)) (w2 : List Val) (hl : ∀ x ∈ c1, ∀ y ∈ c2, x.length + y.length ≤ 1000000) (S : MS) : MCalls Tryz.prog 232 [encV (.mk n1 m1 s1 c1 w1), encV (.mk n2 m2 s2 c2 w2)] S fun v σ' => v = encV (clocksF (.mk n1 m1 s1 c1 w1) (.mk n2 m2 s2 c2 w2)) ∧ σ' = S := by
 refine zR Tryz.func232 V Tryz.ntmps232 (zA V) ?_
 refine zB <| qR V <| qB V V V V V <| qB V V V V V <| qO V <| zM0 V zm27 V V <| qN <| zB <| zB0 <| zB ?_
 rcases c1 with _ | ⟨x, c1⟩ <;> rcases c2 with _ | ⟨y, c2⟩
 ·
  refine qR V <| qF V V V zO2 <| qL V V V V ta24 V <| qE V V zD0 V <| qC V V V V (eq_nil) <| qA V V V <| qN <| zU V (V) <| zB <| qR V <| qL V V V V ta27 V <| qO V <| zZ V V V V sz27 V V (zA V) V <| qN <| zH ?_
  exact zF3 (.inr V) Tryz.results232 V V ta27 V (.refl _) (zO1 _ (.mk n2 m2 s2 [] w2)) Vv
 ·
  refine qR V <| qF V V V zO2 <| qL V V V V ta24 V <| qE V V zD0 V <| qC V V V V (eq_nil) <| qA V V V <| qN <| zU V (V) <| zB <| qR V <| qL V V V V ta27 V <| qO V <| zZ V V V V sz27 V V (zA V) V <| qN <| zH ?_
  exact zF3 (.inr V) Tryz.results232 V V ta27 V (.refl _) (zO1 _ (.mk n2 m2 s2 (y :: c2) w2)) Vv
 ·
  refine qR V <| qF V V V zO2 <| qL V V V V ta24 V <| qE V V zD0 V <| qC V V V V (eq_cons) <| qA V V V <| qN <| zK V (V) <| zB <| qR V <| qF V V V zO2 <| qL V V V V ta24 V <| qE V V zD0 V <| qC V V V V (eq_nil) <| qA V V V <| qN <| zU V (V) <| zB <| qR V <| qL V V V V ta27 V ?_
  refine qO V <| zZ V V V V sz27 V V (zA V) V <| qN <| zH ?_
  exact zF3 (.inr V) Tryz.results232 V V ta27 V (.refl _) (zO1 _ (.mk n1 m1 s1 (x :: c1) w1)) Vv
 ·
  refine qR V <| qF V V V zO2 <| qL V V V V ta24 V <| qE V V zD0 V <| qC V V V V (eq_cons) <| qA V V V <| qN <| zK V (V) <| zB <| qR V <| qF V V V zO2 <| qL V V V V ta24 V <| qE V V zD0 V <| qC V V V V (eq_cons) <| qA V V V <| qN <| zK V (V) <| zX <| zB ?_
  refine zW0 [11] [_, S ++ [.cells (encV (.mk n1 m1 s1 (x :: c1) w1)).cells, .cells (encV (.mk n2 m2 s2 (y :: c2) w2)).cells, .cells [.int .u64 0, .int .u64 0, .lst0, .lst none 1 [encC (joinF x y)], .lst0]]] mo (by decide) V V V V ?_
  refine dO V V V (zG V V zO2 Vv) <| dO V V V (zN0 V V V ta24 V Vv) <| dO V V V (zI V zD0 sz202 (by decide) V V V (show _ = some (encC x) from V) Vv) ?_
  refine dO V V V (zL V V ta202 V Vv) <| dO V V V (zG V V zO2 Vv) <| dO V V V (zN0 V V V ta24 V Vv) <| dO V V V (zI V zD0 sz202 (by decide) V V V (show _ = some (encC y) from V) Vv) ?_
  refine dO V V V (zL V V ta202 V Vv) <| zN V V (.cons (zT0 V V V co272 (clkJoin_spec x y (hl x (by simp) y (by simp)) _)) .nil) ?_
  refine dO V V V (zL1 V zD0 el202 V V (by decide) (by decide) V V Vv) ?_
  refine dO V V V (zR1 V zN1 zm27 (.cons zO2 sz24 V V (zA V) .nil) (by kernel_rfl) Vv) ?_
  refine zV0 V V V V (zZ V V V V sz27 V V (zA V) V Vv) <| zQ0 <| zH ?_
  exact zF3 (.inr V) Tryz.results232 V V ta27 V (.agg (.cons (.refl _) (.cons (.refl _) (.cons (.nil 1) (.cons (.refl _) (.cons (.nil 5) .nil)))))) (zO1 _ (.mk 0 0 [] [joinF x y] [])) Vv
theorem stJ_fl {cmp : List Tk → List Tk → Int} {a b : List (REnt (List Tk))} {S : MS} (A : MS) {x y z : MObj} {j : Nat} : stJ cmp a b (S ++ (A ++ [x, y, z])) (S ++ A).length ((S ++ A).length + 1) j = S ++ (A ++ [.cells [.lst none 3 ((restE cmp a b j).1.map (encR encC))], .cells [.lst none 3 ((restE cmp a b j).2.map (encR encC))], z]) := by
 unfold stJ
 rw [← zO, List.set_append_right _ _ (Nat.le_refl _), Nat.sub_self, List.set_append_right _ _ (by simp), ← zO]
 simp
theorem get_fl {S : MS} (A : MS) {B : MS} (k : Nat) {o : MObj} (h : B[k]? = some o) : (S ++ (A ++ B))[(S ++ A).length + k]? = some o := by
 rw [← zO, getElem?_own]
 exact h
theorem cl_outC {acc : List (List Tk × Val)} {t u n : Nat} (ht : t < n) (hu : u < n) : (MObj.cells [.int .u64 0, .int .u64 0, .lst0, .lst (some t) 1 (acc.map fun e => encC e.1), .lst (some u) 5 (acc.map fun e => encV e.2)]).cl n := by
 intro x hx
 simp only [List.mem_cons, List.not_mem_nil, or_false] at hx
 rcases hx with rfl | rfl | rfl | rfl | rfl
 ·exact .int _ _
 ·exact .int _ _
 ·exact .lst0
 ·exact cl_lstT ht (fun e : List Tk × Val => cl_encC n e.1) (fun e => .inr rfl)
 ·exact cl_lstT hu (fun e : List Tk × Val => zO1 n e.2) (fun e => by cases e.2; exact .inl rfl)
theorem one_encE (e : Ent (List Tk)) : (encE encC e).cells.all MV.one = true := by obtain ⟨k, v, o⟩ := e; cases o <;> rfl
theorem filt_snoc {α : Type} {l : List α} {p : α → Bool} {i : Nat} {a : α} (h : l[i]? = some a) : (l.take (i + 1)).filter p = (l.take i).filter p ++ (if p a then [a] else []) := by
 rw [List.take_add_one, h, Option.toList_some, List.filter_append]
 congr 1
 simp [List.filter_cons]
theorem goE_snoc {κ : Type} {f : Val → Val → Option Val} {a : List (Ent κ)} {x : List (κ × Val)} {e : Ent κ} {v : Val} (h : goE f a = some x) (he : ofE f e = some v) : goE f (a ++ [e]) = some (x ++ [(e.1, v)]) := by
 rw [goE_append, h]
 simp [goE, he]
theorem goE_bad {κ : Type} {f : Val → Val → Option Val} : ∀ {a : List (Ent κ)} {e : Ent κ}, e ∈ a → ofE f e = none → goE f a = none
 | x :: a, e, h, he => by
  rw [goE]
  rcases List.mem_cons.1 h with rfl | h
  ·rw [he]
  ·rw [goE_bad h he]
   cases ofE f x <;> rfl
theorem filt_len {α : Type} (l : List α) (p : α → Bool) (i : Nat) : ((l.take i).filter p).length ≤ i := Nat.le_trans (List.length_filter_le _ _) (by rw [List.length_take]; omega)
theorem zip_mem1 {α β : Type} {a : List α} {b : List β} {x : α} {y : β} (h : (x, y) ∈ a.zip b) : x ∈ a := (List.of_mem_zip h).1
theorem zip_mem2 {α β : Type} {a : List α} {b : List β} {x : α} {y : β} (h : (x, y) ∈ a.zip b) : y ∈ b := (List.of_mem_zip h).2
theorem _root_.zA0 : type_of% @Tryz.underlying43 := @Tryz.underlying43
theorem causes_spec (k k1 : Int) (i1 rest : List Sch) (f : Val → Val → Option Val) (n1 m1 : Int) (s1 : List Bs) (c1 : List (List Tk)) (w1 : List Val) (n2 m2 : Int) (s2 : List Bs) (c2 : List (List Tk)) (w2 : List Val) (hl1 : c1.length = w1.length) (hl2 : c2.length = w2.length) (h1 : c1.length ≤ 40) (h2 : c2.length ≤ 40) (hk1 : ∀ x ∈ c1, x.length ≤ 1000) (hk2 : ∀ x ∈ c2, x.length ≤ 1000) (hb : ∀ x ∈ w1, ∀ y ∈ w2, ∀ S : MS, MCalls Tryz.prog 188 [encS (.mk k1 i1), encV x, encV y] S fun v σ' => v = encO (f x y) ∧ σ' = S) (S : MS) : MCalls Tryz.prog 233 [encS (.mk k (.mk k1 i1 :: rest)), encV (.mk n1 m1 s1 c1 w1), encV (.mk n2 m2 s2 c2 w2)] S fun v σ' => v = encO (causesF f (.mk n1 m1 s1 c1 w1) (.mk n2 m2 s2 c2 w2)) ∧ σ' = S := by
 refine zR Tryz.func233 V Tryz.ntmps233 (zA V) ?_
 generalize hl : mergedC (.mk n1 m1 s1 c1 w1) (.mk n2 m2 s2 c2 w2) = l
 have hll : l.length ≤ 80 := by rw [← hl]; have := mergeE_len byTicksF (c1.zip w1) (c2.zip w2); simp only [mergedC, entC, Val.cv, Val.vv, List.length_zip] at *; omega
 have hlen : l.length ≤ maxLen := by simp only [maxLen]; omega
 have hmem : ∀ e ∈ l, e.1.length ≤ 1000 ∧ ∀ y, e.2.2 = some y → e.2.1 ∈ w1 ∧ y ∈ w2 := fun e h => by
  obtain ⟨p, q⟩ := mergeE_mem _ _ _ e (by rw [← hl] at h; exact h)
  refine ⟨p.elim (fun h => hk1 _ (zip_mem1 h)) (fun h => hk2 _ (zip_mem1 h)), fun y hy => ?_⟩
  obtain ⟨q1, k, q2⟩ := q y hy
  exact ⟨zip_mem2 q1, zip_mem2 q2⟩
 refine zB <| qR V <| qB V V V V V <| qB V V V V V <| qB V V V V V <| qO V <| zM0 V zm27 V V <| qA V V V <| qN <| zB ?_
 refine zW0 [10, 11] [_, S ++ [.cells (encS (.mk k (.mk k1 i1 :: rest))).cells, .cells (encV (.mk n1 m1 s1 c1 w1)).cells, .cells (encV (.mk n2 m2 s2 c2 w2)).cells, .cells [.int .u64 0, .int .u64 0, .lst0, .lst0, .lst0], .cells [.lst none 3 ((c1.zip w1).map (encR encC))], .cells [.lst none 3 ((c2.zip w2).map (encR encC))], .cells [.fn (.func 276) [] []]], S ++ [.cells (encS (.mk k (.mk k1 i1 :: rest))).cells, .cells (encV (.mk n1 m1 s1 c1 w1)).cells, .cells (encV (.mk n2 m2 s2 c2 w2)).cells, .cells [.int .u64 0, .int .u64 0, .lst0, .lst0, .lst0], .cells [.lst none 3 ((restE byTicksF (c1.zip w1) (c2.zip w2) (mergedC (.mk n1 m1 s1 c1 w1) (.mk n2 m2 s2 c2 w2)).length).1.map (encR encC))], .cells [.lst none 3 ((restE byTicksF (c1.zip w1) (c2.zip w2) (mergedC (.mk n1 m1 s1 c1 w1) (.mk n2 m2 s2 c2 w2)).length).2.map (encR encC))], .cells [.fn (.func 276) [] []]]] mo (by decide) V V V V ?_
 refine zN V V (.cons (zG V V zO2 Vv) (.cons (zG V V zO2 Vv) (.cons (zG V V zO2 Vv) (.nil)))) <| zN V V (.cons (zN0 V V V ta24 V Vv) (.cons (zN0 V V V ta24 V Vv) (.cons (zN0 V V V ta24 V Vv) (.nil)))) <| zN V V (.cons (zG V V zG2 Vv) (.cons (zG V V zG2 Vv) (.cons (zG V V zG2 Vv) (.nil)))) <| zN V V (.cons (zN0 V V V ta25 V Vv) (.cons (zN0 V V V ta25 V Vv) (.cons (zN0 V V V ta25 V Vv) (.nil)))) <| zN V V (.cons (zT0 V V V co275 (crow_spec c1 w1 hl1 (by omega) _)) .nil) ?_
 refine zN V V (.cons (zG V V zO2 Vv) (.cons (zG V V zO2 Vv) (.cons (zG V V zO2 Vv) (.nil)))) <| zN V V (.cons (zN0 V V V ta24 V Vv) (.cons (zN0 V V V ta24 V Vv) (.cons (zN0 V V V ta24 V Vv) (.nil)))) <| zN V V (.cons (zG V V zG2 Vv) (.cons (zG V V zG2 Vv) (.cons (zG V V zG2 Vv) (.nil)))) <| zN V V (.cons (zN0 V V V ta25 V Vv) (.cons (zN0 V V V ta25 V Vv) (.cons (zN0 V V V ta25 V Vv) (.nil)))) <| zN V V (.cons (zT0 V V V co275 (crow_spec c2 w2 hl2 (by omega) _)) .nil) ?_
 refine zV0 V V V V (zT0 V V V co274 ((cmerged_spec (c1.zip w1) (c2.zip w2) _ _).mono fun _ _ h => ⟨h.1, h.2.trans (zO ..)⟩)) ?_
 refine zV0 V V V V (zT0 V V V co273 ((collect_spec (c1.zip w1) (c2.zip w2) (by rw [List.length_zip, List.length_zip]; omega) 276 byTicksF co276 (fun a b S => jTicks_spec a b S) _ _ _ (by omega) (by omega) (by omega) _ (get_fl [_, _, _, _] 0 V) (get_fl [_, _, _, _] 1 V) (get_fl [_, _, _, _] 2 V)).mono fun _ _ h => ⟨h.1.trans (congrArg (fun z => MV.lst none 3 (z.map (encE encC))) hl), h.2.trans (stJ_fl [_, _, _, _])⟩)) ?_
 refine dO V V V (zZ0 V V Vv) <| zQ0 <| zB <| qR V <| qO V <| zM0 V zm27 V V <| qN <| zB <| zB <| qR V <| qM V V V <| qE V V zK0 V <| qM V V V <| qN <| zB0 <| mwp_cellrowAt 7 3 202 1 V V (Nat.le_refl _) V V <| mwp_cellrowAt 7 4 27 5 V V (Nat.le_refl _) V V ?_
 refine zO4 (α := Nat × List (List Tk × Val)) [(3, _), (6, _), (8, _), (9, _), (26, _), (27, _)] (fun x => [(28, .int .i64 (x.1 : Int))]) (fun x => [.cells (encS (.mk k (.mk k1 i1 :: rest))).cells, .cells (encV (.mk n1 m1 s1 c1 w1)).cells, .cells (encV (.mk n2 m2 s2 c2 w2)).cells, .cells [.int .u64 0, .int .u64 0, .lst0, .lst0, .lst0], .cells [.lst none 3 ((restE byTicksF (c1.zip w1) (c2.zip w2) (mergedC (.mk n1 m1 s1 c1 w1) (.mk n2 m2 s2 c2 w2)).length).1.map (encR encC))], .cells [.lst none 3 ((restE byTicksF (c1.zip w1) (c2.zip w2) (mergedC (.mk n1 m1 s1 c1 w1) (.mk n2 m2 s2 c2 w2)).length).2.map (encR encC))], .cells [.fn (.func 276) [] []], .cells [.int .u64 0, .int .u64 0, .lst0, .lst (some (S.length + 8)) 1 ((x.2.map fun e => encC e.1)), .lst (some (S.length + 9)) 5 ((x.2.map fun e => encV e.2))], .row 202 1 x.2.length, .row 27 5 x.2.length]) (fun x => x.1 ≤ l.length ∧ goE f ((l.take x.1).filter (fun e => !seenE l e)) = some x.2) (fun x => l.length - x.1) (⟨0, []⟩) (Nat.le_refl _) (.keep V (.keep V (.keep V (.keep V (.keep V (.keep V (.nil))))))) (.keep V (.nil)) (⟨by simp, rfl⟩) (V) ?_
 rintro ⟨i, acc⟩ ⟨hi, he⟩
 dsimp only at hi he ⊢
 have hal : acc.length ≤ 1000 := by have h1 := goE_len he; have h2 := filt_len l (fun e => !seenE l e) i; omega
 refine zB <| qR V <| qC V V V V V <| qN <| zB ?_
 refine zM V (fun h29 => ?_) (fun h29 => ?_)
 ·
  have hlt : i < l.length := by simpa using h29
  obtain ⟨e, hs⟩ : ∃ q_, l[i]? = some q_ := ⟨_, zC hlt⟩
  refine zX <| zB <| zB0 <| zB <| qR V <| qO V <| zI V zK0 sz332 (by decide) V V V (zM1 hs) ?_
  refine qO V <| zL V V ta332 V <| qO V <| zM0 V zm332 V V <| qO V <| zZ V V V V sz332 V (one_encE e) (zA V) V <| qN <| zB <| zB <| qR V <| qM V V V <| qO V <| zI2 V V V ?_
  refine qX V V V V co277 (eContains_spec _ l (fun o => decide (cmpF e.1 o.1 = -1)) _ [] [.ref (S.length + 10) 0] co278 (fun x hx X => causes1_spec e x (by have h1 := (hmem e (zW hs)).1; have h2 := (hmem x hx).1; omega) _ _ (zL4 (k := 10) V))) ?_
  refine qN ?_
  refine zM V (fun h34 => ?_) (fun h34 => ?_)
  ·
   refine zV1 <| qR V <| qO V <| zH1 V V V V <| qM V V V <| qN ?_
   refine ⟨⟨i + 1, acc⟩, _, by dsimp only; omega, ⟨by dsimp only; omega, by dsimp only; rw [filt_snoc hs, if_neg (by simp [seenE, show (l.any fun o => decide (cmpF e.1 o.1 = -1)) = true from h34]), List.append_nil]; exact he⟩, rfl, LTo.refl _ _, (.old V V (.old V V (.old V V (.old V V (.old V V (.old V V (.nil))))))), (.new' V (zH2 hlt hlen) (.int _ _) (.nil))⟩
  ·
   refine zX <| zB ?_
   have hof := fun S => cof_spec k1 i1 f e (fun y hy S => hb _ ((hmem e (zW hs)).2 y hy).1 y ((hmem e (zW hs)).2 y hy).2 S) S
   rcases hf : ofE f e with _ | ⟨⟨n3, m3, s3, c3, w3⟩⟩ <;> rw [hf] at hof
   ·
    refine zW0 [9, 10] [_, S ++ [.cells (encS (.mk k (.mk k1 i1 :: rest))).cells, .cells (encV (.mk n1 m1 s1 c1 w1)).cells, .cells (encV (.mk n2 m2 s2 c2 w2)).cells, .cells [.int .u64 0, .int .u64 0, .lst0, .lst0, .lst0], .cells [.lst none 3 ((restE byTicksF (c1.zip w1) (c2.zip w2) (mergedC (.mk n1 m1 s1 c1 w1) (.mk n2 m2 s2 c2 w2)).length).1.map (encR encC))], .cells [.lst none 3 ((restE byTicksF (c1.zip w1) (c2.zip w2) (mergedC (.mk n1 m1 s1 c1 w1) (.mk n2 m2 s2 c2 w2)).length).2.map (encR encC))], .cells [.fn (.func 276) [] []], .cells [.int .u64 0, .int .u64 0, .lst0, .lst (some (S.length + 8)) 1 ((acc.map fun e => encC e.1)), .lst (some (S.length + 9)) 5 ((acc.map fun e => encV e.2))], .row 202 1 acc.length, .row 27 5 acc.length, .cells (encE encC e).cells, .cells [.int .u64 0, .int .u64 0, .lst0, .lst0, .lst0]], S ++ [.cells (encS (.mk k (.mk k1 i1 :: rest))).cells, .cells (encV (.mk n1 m1 s1 c1 w1)).cells, .cells (encV (.mk n2 m2 s2 c2 w2)).cells, .cells [.int .u64 0, .int .u64 0, .lst0, .lst0, .lst0], .cells [.lst none 3 ((restE byTicksF (c1.zip w1) (c2.zip w2) (mergedC (.mk n1 m1 s1 c1 w1) (.mk n2 m2 s2 c2 w2)).length).1.map (encR encC))], .cells [.lst none 3 ((restE byTicksF (c1.zip w1) (c2.zip w2) (mergedC (.mk n1 m1 s1 c1 w1) (.mk n2 m2 s2 c2 w2)).length).2.map (encR encC))], .cells [.fn (.func 276) [] []], .cells [.int .u64 0, .int .u64 0, .lst0, .lst (some (S.length + 8)) 1 ((acc.map fun e => encC e.1)), .lst (some (S.length + 9)) 5 ((acc.map fun e => encV e.2))], .row 202 1 acc.length, .row 27 5 acc.length, .cells (encE encC e).cells, .cells (encV noV).cells]] mo (by decide) V V V V ?_
    refine zN V V (.cons (zG V V zG3 Vv) (.cons (zG V V zG3 Vv) (.nil))) <| zN V V (.cons (zN0 V V V ta51 V Vv) (.cons (zN0 V V V ta51 V Vv) (.nil))) <| zN V V (.cons (zI V zO0 sz53 (by decide) V V V (show _ = some (encS (.mk k1 i1)) from V) Vv) (.cons (zI V zO0 sz53 (by decide) V V V (show _ = some (encS (.mk k1 i1)) from V) Vv) (.nil))) ?_
    refine zN V V (.cons (zL V V ta53 V Vv) (.cons (zL V V ta53 V Vv) (.nil))) <| zN V V (.cons (zN0 V V V ta332 V Vv) (.cons (zN0 V V V ta332 V Vv) (.nil))) <| zN V V (.cons (zT0 V V V co279 (hof _)) (.cons (zT0 V V V co279 (hof _)) (.nil))) <| zN V V (.cons (zY V V Vv) (.cons (zY V V Vv) (.nil))) <| zN V V (.cons (zS V V V Vv) (.cons (zS V V V Vv) (.nil))) <| zN V V (.cons (zS V V V Vv) (.cons (zS V V V Vv) (.cons (zS V V V Vv) (.nil)))) <| zV0 V V V V (zM0 V zm27 V V Vv) <| zV0 V V V V (zZ V V V V sz27 V V (zA V) V Vv) <| dO V V V (zZ0 V V Vv) <| zQ0 <| zB <| zB <| qR V <| qM V V V <| qO V <| zS2 V zA0 V V (.inr Vv) <| qN <| zU V (V) <| zB <| qR V <| qO V <| zR1 V zN1 zm27 .nil (by kernel_rfl) ?_
    refine qM V V V <| qO V <| zZ V V V V sz27 V V (zA V) V <| qA V V V <| qN <| zH ?_
    exact zJ1 (.inr V) Tryz.results233 V V ta27 V (.agg (.cons (.refl _) (.cons (.refl _) (.cons (.nil 1) (.cons (.nil 1) (.cons (.nil 5) .nil)))))) (zO1 _ (noV)) V (.refl _) (.iface _ _ (.int _ _)) ⟨by rw [show causesF f (.mk n1 m1 s1 c1 w1) (.mk n2 m2 s2 c2 w2) = none from by rw [causesF, hl, goE_bad (List.mem_filter.2 ⟨zW hs, by simpa [seenE] using h34⟩) hf]; rfl]; rfl, rfl⟩
   ·
    refine zW0 [9, 10] [_, S ++ [.cells (encS (.mk k (.mk k1 i1 :: rest))).cells, .cells (encV (.mk n1 m1 s1 c1 w1)).cells, .cells (encV (.mk n2 m2 s2 c2 w2)).cells, .cells [.int .u64 0, .int .u64 0, .lst0, .lst0, .lst0], .cells [.lst none 3 ((restE byTicksF (c1.zip w1) (c2.zip w2) (mergedC (.mk n1 m1 s1 c1 w1) (.mk n2 m2 s2 c2 w2)).length).1.map (encR encC))], .cells [.lst none 3 ((restE byTicksF (c1.zip w1) (c2.zip w2) (mergedC (.mk n1 m1 s1 c1 w1) (.mk n2 m2 s2 c2 w2)).length).2.map (encR encC))], .cells [.fn (.func 276) [] []], .cells [.int .u64 0, .int .u64 0, .lst0, .lst (some (S.length + 8)) 1 ((acc.map fun e => encC e.1)), .lst (some (S.length + 9)) 5 ((acc.map fun e => encV e.2))], .row 202 1 acc.length, .row 27 5 acc.length, .cells (encE encC e).cells, .cells [.int .u64 0, .int .u64 0, .lst0, .lst0, .lst0]], S ++ [.cells (encS (.mk k (.mk k1 i1 :: rest))).cells, .cells (encV (.mk n1 m1 s1 c1 w1)).cells, .cells (encV (.mk n2 m2 s2 c2 w2)).cells, .cells [.int .u64 0, .int .u64 0, .lst0, .lst0, .lst0], .cells [.lst none 3 ((restE byTicksF (c1.zip w1) (c2.zip w2) (mergedC (.mk n1 m1 s1 c1 w1) (.mk n2 m2 s2 c2 w2)).length).1.map (encR encC))], .cells [.lst none 3 ((restE byTicksF (c1.zip w1) (c2.zip w2) (mergedC (.mk n1 m1 s1 c1 w1) (.mk n2 m2 s2 c2 w2)).length).2.map (encR encC))], .cells [.fn (.func 276) [] []], .cells [.int .u64 0, .int .u64 0, .lst0, .lst (some (S.length + 8)) 1 ((acc.map fun e => encC e.1)), .lst (some (S.length + 9)) 5 ((acc.map fun e => encV e.2))], .row 202 1 acc.length, .row 27 5 acc.length, .cells (encE encC e).cells, .cells (encV (.mk n3 m3 s3 c3 w3)).cells]] mo (by decide) V V V V ?_
    refine zN V V (.cons (zG V V zG3 Vv) (.cons (zG V V zG3 Vv) (.nil))) <| zN V V (.cons (zN0 V V V ta51 V Vv) (.cons (zN0 V V V ta51 V Vv) (.nil))) <| zN V V (.cons (zI V zO0 sz53 (by decide) V V V (show _ = some (encS (.mk k1 i1)) from V) Vv) (.cons (zI V zO0 sz53 (by decide) V V V (show _ = some (encS (.mk k1 i1)) from V) Vv) (.nil))) ?_
    refine zN V V (.cons (zL V V ta53 V Vv) (.cons (zL V V ta53 V Vv) (.nil))) <| zN V V (.cons (zN0 V V V ta332 V Vv) (.cons (zN0 V V V ta332 V Vv) (.nil))) <| zN V V (.cons (zT0 V V V co279 (hof _)) (.cons (zT0 V V V co279 (hof _)) (.nil))) <| zN V V (.cons (zY V V Vv) (.cons (zY V V Vv) (.nil))) <| zN V V (.cons (zS V V V Vv) (.cons (zS V V V Vv) (.nil))) <| zN V V (.cons (zS V V V Vv) (.cons (zS V V V Vv) (.cons (zS V V V Vv) (.nil)))) <| zV0 V V V V (zM0 V zm27 V V Vv) <| zV0 V V V V (zZ V V V V sz27 V V (zA V) V Vv) <| dO V V V (zZ0 V V Vv) <| zQ0 <| zB <| zB <| qR V <| qM V V V <| qO V <| zV3 V zA0 V V (.inr Vv) <| qN <| zK V (V) <| zX ?_
    refine zW0 [5, 10, 12, 14] [_, S ++ [.cells (encS (.mk k (.mk k1 i1 :: rest))).cells, .cells (encV (.mk n1 m1 s1 c1 w1)).cells, .cells (encV (.mk n2 m2 s2 c2 w2)).cells, .cells [.int .u64 0, .int .u64 0, .lst0, .lst0, .lst0], .cells [.lst none 3 ((restE byTicksF (c1.zip w1) (c2.zip w2) (mergedC (.mk n1 m1 s1 c1 w1) (.mk n2 m2 s2 c2 w2)).length).1.map (encR encC))], .cells [.lst none 3 ((restE byTicksF (c1.zip w1) (c2.zip w2) (mergedC (.mk n1 m1 s1 c1 w1) (.mk n2 m2 s2 c2 w2)).length).2.map (encR encC))], .cells [.fn (.func 276) [] []], .cells [.int .u64 0, .int .u64 0, .lst0, .lst (some (S.length + 8)) 1 ((acc.map fun e => encC e.1)), .lst (some (S.length + 9)) 5 ((acc.map fun e => encV e.2))], .row 202 1 (acc.length + 1), .row 27 5 acc.length, .cells (encE encC e).cells, .cells (encV (.mk n3 m3 s3 c3 w3)).cells], S ++ [.cells (encS (.mk k (.mk k1 i1 :: rest))).cells, .cells (encV (.mk n1 m1 s1 c1 w1)).cells, .cells (encV (.mk n2 m2 s2 c2 w2)).cells, .cells [.int .u64 0, .int .u64 0, .lst0, .lst0, .lst0], .cells [.lst none 3 ((restE byTicksF (c1.zip w1) (c2.zip w2) (mergedC (.mk n1 m1 s1 c1 w1) (.mk n2 m2 s2 c2 w2)).length).1.map (encR encC))], .cells [.lst none 3 ((restE byTicksF (c1.zip w1) (c2.zip w2) (mergedC (.mk n1 m1 s1 c1 w1) (.mk n2 m2 s2 c2 w2)).length).2.map (encR encC))], .cells [.fn (.func 276) [] []], .cells [.int .u64 0, .int .u64 0, .lst0, .lst (some (S.length + 8)) 1 ((acc.map fun e => encC e.1)), .lst (some (S.length + 9)) 5 ((acc.map fun e => encV e.2))], .row 202 1 (acc.length + 1), .row 27 5 (acc.length + 1), .cells (encE encC e).cells, .cells (encV (.mk n3 m3 s3 c3 w3)).cells], S ++ [.cells (encS (.mk k (.mk k1 i1 :: rest))).cells, .cells (encV (.mk n1 m1 s1 c1 w1)).cells, .cells (encV (.mk n2 m2 s2 c2 w2)).cells, .cells [.int .u64 0, .int .u64 0, .lst0, .lst0, .lst0], .cells [.lst none 3 ((restE byTicksF (c1.zip w1) (c2.zip w2) (mergedC (.mk n1 m1 s1 c1 w1) (.mk n2 m2 s2 c2 w2)).length).1.map (encR encC))], .cells [.lst none 3 ((restE byTicksF (c1.zip w1) (c2.zip w2) (mergedC (.mk n1 m1 s1 c1 w1) (.mk n2 m2 s2 c2 w2)).length).2.map (encR encC))], .cells [.fn (.func 276) [] []], .cells [.int .u64 0, .int .u64 0, .lst0, .lst (some (S.length + 8)) 1 (((acc.map fun e => encC e.1) ++ [encC e.1])), .lst (some (S.length + 9)) 5 ((acc.map fun e => encV e.2))], .row 202 1 (acc.length + 1), .row 27 5 (acc.length + 1), .cells (encE encC e).cells, .cells (encV (.mk n3 m3 s3 c3 w3)).cells], S ++ [.cells (encS (.mk k (.mk k1 i1 :: rest))).cells, .cells (encV (.mk n1 m1 s1 c1 w1)).cells, .cells (encV (.mk n2 m2 s2 c2 w2)).cells, .cells [.int .u64 0, .int .u64 0, .lst0, .lst0, .lst0], .cells [.lst none 3 ((restE byTicksF (c1.zip w1) (c2.zip w2) (mergedC (.mk n1 m1 s1 c1 w1) (.mk n2 m2 s2 c2 w2)).length).1.map (encR encC))], .cells [.lst none 3 ((restE byTicksF (c1.zip w1) (c2.zip w2) (mergedC (.mk n1 m1 s1 c1 w1) (.mk n2 m2 s2 c2 w2)).length).2.map (encR encC))], .cells [.fn (.func 276) [] []], .cells [.int .u64 0, .int .u64 0, .lst0, .lst (some (S.length + 8)) 1 (((acc.map fun e => encC e.1) ++ [encC e.1])), .lst (some (S.length + 9)) 5 (((acc.map fun e => encV e.2) ++ [encV (.mk n3 m3 s3 c3 w3)]))], .row 202 1 (acc.length + 1), .row 27 5 (acc.length + 1), .cells (encE encC e).cells, .cells (encV (.mk n3 m3 s3 c3 w3)).cells]] mo (by decide) V V V V ?_
    refine zN V V (.cons (zG V V zO2 Vv) (.cons (zG V V zO2 Vv) (.cons (zG V V zO2 Vv) (.nil)))) <| dO V V V (zN0 V V V ta24 V Vv) <| zN V V (.cons (zG V V zQ5 Vv) (.cons (zG V V zQ5 Vv) (.cons (zG V V zQ5 Vv) (.nil)))) <| zN V V (.cons (zN0 V V V ta202 V Vv) (.cons (zN0 V V V ta202 V Vv) (.cons (zN0 V V V ta202 V Vv) (.nil)))) <| dO V V V (zL1 V zD0 el202 V V (by decide) (by decide) V V Vv) ?_
    refine zV0 V V V V (zK3 V zD0 el202 V V V (by simp) (by simp; omega) (by simp; omega) V Vv) ?_
    refine zN V V (.cons (zG V V zG2 Vv) (.cons (zG V V zG2 Vv) (.cons (zG V V zG2 Vv) (.nil)))) <| zN V V (.cons (zN0 V V V ta25 V Vv) (.cons (zN0 V V V ta25 V Vv) (.nil))) <| zN V V (.cons (zN0 V V V ta27 V Vv) (.cons (zN0 V V V ta27 V Vv) (.cons (zN0 V V V ta27 V Vv) (.cons (zN0 V V V ta27 V Vv) (.nil))))) <| zN V V (.cons (zL1 V zG0 el27 V V (by decide) (by decide) V V Vv) (.cons (zL1 V zG0 el27 V V (by decide) (by decide) V V Vv) (.nil))) ?_
    refine zV0 V V V V (zK3 V zG0 el27 V V V (by simp) (by simp; omega) (by simp; omega) V Vv) ?_
    refine zN V V (.cons (zG V V zO2 Vv) (.cons (zG V V zO2 Vv) (.nil))) <| zV0 V V V V (zZ V V V V sz24 V V (zA V) V Vv) <| dO V V V (zG V V zG2 Vv) <| zV0 V V V V (zZ V V V V sz25 V V (zA V) V Vv) <| zQ0 <| qR V <| qO V <| zH1 V V V V <| qM V V V <| qN ?_
    refine ⟨⟨i + 1, acc ++ [(e.1, .mk n3 m3 s3 c3 w3)]⟩, _, by dsimp only; omega, ⟨by dsimp only; omega, by dsimp only; rw [filt_snoc hs, if_pos (by simpa [seenE] using h34)]; exact goE_snoc he hf⟩, by simp only [List.map_append, zE]; rfl, .same (.same (.same (.same (.same (.same (.same (.new (cl_outC (by simp) (by simp)) (.new trivial (.new trivial .nil))))))))), (.old V V (.old V V (.old V V (.old V V (.old V V (.old V V (.nil))))))), (.new' V (zH2 hlt hlen) (.int _ _) (.nil))⟩
 ·
  have hge : i = l.length := by simp at h29; omega
  refine zV1 <| zB <| qR V <| qL V V V V ta27 V <| qO V <| zZ V V V V sz27 V V (zA V) V <| qA V V V <| qN <| zH ?_
  exact zJ1 (.inr V) Tryz.results233 V V ta27 V (.agg (.cons (.refl _) (.cons (.refl _) (.cons (.nil 1) (.cons (.trans (.view _ _ _) (.of_eq (by rw [List.map_map]; rfl))) (.cons (.trans (.view _ _ _) (.of_eq (by rw [encVs_eq, List.map_map]; rfl))) .nil)))))) (zO1 _ (.mk 0 0 [] (acc.map (·.1)) (acc.map (·.2)))) V (.refl _) (.iface0) ⟨by rw [show causesF f (.mk n1 m1 s1 c1 w1) (.mk n2 m2 s2 c2 w2) = some _ from by rw [causesF, hl]; rw [hge, List.take_length] at he; rw [he]; rfl]; rfl, rfl⟩
section
theorem fn_own {f : FuncId} {S : MS} (A : MS) : MV.fn (.func f) [] [.ref (S ++ A).length 0, .ref ((S ++ A).length + 1) 0, .ref ((S ++ A).length + 2) 0] = MV.fn (.func f) [] [.ref (S.length + A.length) 0, .ref (S.length + (A.length + 1)) 0, .ref (S.length + (A.length + 2)) 0] := by
 rw [zE]; rfl
theorem get_end {A A' R : MS} {c : MObj} (h : A'.length = A.length) : (A' ++ (R ++ [c]))[(A ++ R).length]? = some c := by
 rw [zE, ← h, getElem?_own]
 exact zI4 (B := [])
theorem set_end {A R : MS} {c d : MObj} : (A ++ (R ++ [c])).set (A ++ R).length d = A ++ (R ++ [d]) := by
 rw [zE, set_own]
 congr 1
 exact zX4 (B := [])
theorem get_rtz {A A' L' : MS} {x y c : MObj} (h : A'.length = A.length) (Z : MS) : (A' ++ (((y :: L') ++ [c]) ++ Z))[(A ++ x :: L').length]? = some c := by
 rw [zE, ← h, getElem?_own]
 exact zQ (zI4 (B := []))
theorem get_rt0 {A A' L' : MS} {x y c : MObj} (h : A'.length = A.length) : (A' ++ ((y :: L') ++ [c]))[(A ++ x :: L').length]? = some c := by
 have := get_rtz (x := x) (y := y) (c := c) (L' := L') h []
 rwa [List.append_nil] at this
section
variable {κ : Type}
def accE (f : Val → Val → Option Val) (l : List (Ent κ)) (j : Nat) : List (κ × Val) := (goE f (l.take j)).getD []
def okE (f : Val → Val → Option Val) (l : List (Ent κ)) (j : Nat) : Bool := ((l[j]?).bind (ofE f)).isSome
theorem acc_step {f : Val → Val → Option Val} {l : List (Ent κ)} {j : Nat} {e : Ent κ} {v : Val} (h : goE f (l.take j) = some (accE f l j)) (he : l[j]? = some e) (hv : ofE f e = some v) : goE f (l.take (j + 1)) = some (accE f l j ++ [(e.1, v)]) := by
 rw [List.take_add_one, he, Option.toList_some]
 exact goE_snoc h hv
theorem acc_next {f : Val → Val → Option Val} {l : List (Ent κ)} {j : Nat} {e : Ent κ} {v : Val} (h : goE f (l.take j) = some (accE f l j)) (he : l[j]? = some e) (hv : ofE f e = some v) : accE f l (j + 1) = accE f l j ++ [(e.1, v)] := by
 rw [accE, acc_step h he hv]; rfl
theorem acc_all {f : Val → Val → Option Val} {l : List (Ent κ)} : ∀ {j : Nat}, j ≤ l.length → (∀ i, i < j → okE f l i = true) → goE f (l.take j) = some (accE f l j)
 | 0, _, _ => by simp [accE, goE]
 | j + 1, hj, h => by
  have ih := acc_all (j := j) (by omega) fun i hi => h i (by omega)
  have hk := h j (by omega)
  obtain ⟨e, he⟩ : ∃ e, l[j]? = some e := ⟨_, zC (by omega)⟩
  rw [okE, he] at hk
  obtain ⟨v, hv⟩ := Option.isSome_iff_exists.1 hk
  rw [acc_step ih he hv, acc_next ih he hv]
end
theorem clo_V (n : Nat) (v : Val) : (MObj.cells (encV v).cells).cl n := by
 have h := zO1 n v
 cases v with
 | mk a b c d e => cases h with
  | agg _ h => exact h
theorem clo_S (n : Nat) (s : Sch) : (MObj.cells (encS s).cells).cl n := by
 have h := cl_encS n s
 cases s with
 | mk a b => cases h with
  | agg _ h => exact h
theorem clo_1 {n : Nat} {x : MV} (h : Cl n x) : (MObj.cells [x]).cl n := fun y hy => by
 rw [List.mem_singleton] at hy; subst hy; exact h
theorem clo_Z (n : Nat) : (MObj.cells [.int .u64 0, .int .u64 0, .lst0, .lst0, .lst0]).cl n := fun y hy => by
 simp only [List.mem_cons, List.not_mem_nil, or_false] at hy
 rcases hy with rfl | rfl | rfl | rfl | rfl
 ·exact .int _ _
 ·exact .int _ _
 ·exact .lst0
 ·exact .lst0
 ·exact .lst0
theorem clo_outX {acc : List (Bs × Val)} {t u n : Nat} (ht : t < n) (hu : u < n) : (MObj.cells [.int .u64 0, .int .u64 0, .lst (some t) 1 (acc.map fun e => encX e.1), .lst0, .lst (some u) 5 (acc.map fun e => encV e.2)]).cl n := by
 intro x hx
 simp only [List.mem_cons, List.not_mem_nil, or_false] at hx
 rcases hx with rfl | rfl | rfl | rfl | rfl
 ·exact .int _ _
 ·exact .int _ _
 ·exact cl_lstT ht (fun e : Bs × Val => cl_encX n e.1) (fun e => .inr rfl)
 ·exact .lst0
 ·exact cl_lstT hu (fun e : Bs × Val => zO1 n e.2) (fun e => by cases e.2; exact .inl rfl)
theorem one_encEX (e : Ent Bs) : (encE encX e).cells.all MV.one = true := by obtain ⟨k, v, o⟩ := e; cases o <;> rfl
theorem clo_bx (n : Nat) (l : List (REnt Bs)) : (MObj.cells [.lst none 3 (l.map (encR encX))]).cl n := clo_1 (cl_lst (cl_encR (fun n k => cl_encX n k) _) (fun _ => .inl rfl))
theorem okE_some {κ : Type} {f : Val → Val → Option Val} {l : List (Ent κ)} {j : Nat} {e : Ent κ} {v : Val} (h : l[j]? = some e) (hf : ofE f e = some v) : okE f l j = true := by rw [okE, h]; simp [hf]
theorem okE_none {κ : Type} {f : Val → Val → Option Val} {l : List (Ent κ)} {j : Nat} {e : Ent κ} (h : l[j]? = some e) (hf : ofE f e = none) : okE f l j = false := by rw [okE, h]; simp [hf]
theorem bad_none {κ : Type} {f : Val → Val → Option Val} {l : List (Ent κ)} {j : Nat} {e : Ent κ} (h : l[j]? = some e) (hf : okE f l j = false) : goE f l = none := by
 refine goE_bad (zW h) ?_
 rw [okE, h] at hf
 simpa using hf
theorem maps_spec (k k1 : Int) (i1 rest : List Sch) (f : Val → Val → Option Val) (n1 m1 : Int) (s1 : List Bs) (c1 : List (List Tk)) (w1 : List Val) (n2 m2 : Int) (s2 : List Bs) (c2 : List (List Tk)) (w2 : List Val) (hl1 : s1.length = w1.length) (hl2 : s2.length = w2.length) (h1 : s1.length ≤ 40) (h2 : s2.length ≤ 40) (hb : ∀ x ∈ w1, ∀ y ∈ w2, ∀ S : MS, MCalls Tryz.prog 188 [encS (.mk k1 i1), encV x, encV y] S fun v σ' => v = encO (f x y) ∧ σ' = S) (S : MS) : MCalls Tryz.prog 229 [encS (.mk k (.mk k1 i1 :: rest)), encV (.mk n1 m1 s1 c1 w1), encV (.mk n2 m2 s2 c2 w2)] S fun v σ' => v = encO (mapsF f (.mk n1 m1 s1 c1 w1) (.mk n2 m2 s2 c2 w2)) ∧ σ' = S := by
 refine zR Tryz.func229 V Tryz.ntmps229 (zA V) ?_
 generalize hl : mergedX (.mk n1 m1 s1 c1 w1) (.mk n2 m2 s2 c2 w2) = l
 have hll : l.length ≤ 80 := by rw [← hl]; have := mergeE_len cmpX (s1.zip w1) (s2.zip w2); simp only [mergedX, entX, Val.sv, Val.vv, List.length_zip] at *; omega
 have hmem : ∀ e ∈ l, ∀ y, e.2.2 = some y → e.2.1 ∈ w1 ∧ y ∈ w2 := fun e h => by
  obtain ⟨p, q⟩ := mergeE_mem _ _ _ e (by rw [← hl] at h; exact h)
  intro y hy
  obtain ⟨q1, k, q2⟩ := q y hy
  exact ⟨zip_mem2 q1, zip_mem2 q2⟩
 refine zB <| qR V <| qB V V V V V <| qB V V V V V <| qB V V V V V <| qO V <| zM0 V zm27 V V <| qO V <| zM0 V zm43 V V <| qN <| zB <| qR V <| qO V <| zM0 V zm27 V V <| qN <| zB <| zB ?_
 refine zW0 [10] [_, S ++ [.cells (encS (.mk k (.mk k1 i1 :: rest))).cells, .cells (encV (.mk n1 m1 s1 c1 w1)).cells, .cells (encV (.mk n2 m2 s2 c2 w2)).cells, .cells [.int .u64 0, .int .u64 0, .lst0, .lst0, .lst0], .cells [.iface0], .cells [.int .u64 0, .int .u64 0, .lst0, .lst0, .lst0], .cells [.lst none 3 ((s1.zip w1).map (encR encX))], .cells [.lst none 3 ((s2.zip w2).map (encR encX))], .cells [.fn (.func 268) [] []]]] mo (by decide) V V V V ?_
 refine zN V V (.cons (zG V V zZ2 Vv) (.cons (zG V V zZ2 Vv) (.nil))) <| zN V V (.cons (zN0 V V V ta23 V Vv) (.cons (zN0 V V V ta23 V Vv) (.nil))) <| zN V V (.cons (zG V V zG2 Vv) (.cons (zG V V zG2 Vv) (.nil))) <| zN V V (.cons (zN0 V V V ta25 V Vv) (.cons (zN0 V V V ta25 V Vv) (.nil))) <| zN V V (.cons (zT0 V V V co267 (xrow_spec s1 w1 hl1 (by omega) _)) .nil) ?_
 refine zN V V (.cons (zG V V zZ2 Vv) (.cons (zG V V zZ2 Vv) (.nil))) <| zN V V (.cons (zN0 V V V ta23 V Vv) (.cons (zN0 V V V ta23 V Vv) (.nil))) <| zN V V (.cons (zG V V zG2 Vv) (.cons (zG V V zG2 Vv) (.nil))) <| zN V V (.cons (zN0 V V V ta25 V Vv) (.cons (zN0 V V V ta25 V Vv) (.nil))) <| zN V V (.cons (zT0 V V V co267 (xrow_spec s2 w2 hl2 (by omega) _)) .nil) ?_
 refine zV0 V V V V (zT0 V V V co266 ((xmerged_spec (s1.zip w1) (s2.zip w2) _ _).mono fun _ _ h => ⟨h.1.trans (fn_own [_, _, _, _, _, _]), h.2.trans (zO ..)⟩)) ?_
 refine zQ0 <| zB0 <| mwp_cellrowAt 5 2 9 1 V V (Nat.le_refl _) V V <| mwp_cellrowAt 5 4 27 5 V V (Nat.le_refl _) V V ?_
 refine mwp_rangeC (L0 := _) .ret (.inl V) (okE f l) (fun j => ([.cells (encS (.mk k (.mk k1 i1 :: rest))).cells, .cells (encV (.mk n1 m1 s1 c1 w1)).cells, .cells (encV (.mk n2 m2 s2 c2 w2)).cells, .cells [.int .u64 0, .int .u64 0, .lst0, .lst0, .lst0], .cells [.iface0], .cells [.int .u64 0, .int .u64 0, .lst (some (S.length + 9)) 1 (((accE f l j).map fun e => encX e.1)), .lst0, .lst (some (S.length + 10)) 5 (((accE f l j).map fun e => encV e.2))], .cells [.lst none 3 ((restE cmpX (s1.zip w1) (s2.zip w2) j).1.map (encR encX))], .cells [.lst none 3 ((restE cmpX (s1.zip w1) (s2.zip w2) j).2.map (encR encX))], .cells [.fn (.func 268) [] []], .row 9 1 (accE f l j).length, .row 27 5 (accE f l j).length] : MS)) (fun j => ([.cells (encS (.mk k (.mk k1 i1 :: rest))).cells, .cells (encV (.mk n1 m1 s1 c1 w1)).cells, .cells (encV (.mk n2 m2 s2 c2 w2)).cells, .cells [.int .u64 0, .int .u64 0, .lst0, .lst0, .lst0], .cells [.iface0], .cells [.int .u64 0, .int .u64 0, .lst (some (S.length + 9)) 1 (((accE f l j).map fun e => encX e.1)), .lst0, .lst (some (S.length + 10)) 5 (((accE f l j).map fun e => encV e.2))], .cells [.lst none 3 ((restE cmpX (s1.zip w1) (s2.zip w2) (j + 1)).1.map (encR encX))], .cells [.lst none 3 ((restE cmpX (s1.zip w1) (s2.zip w2) (j + 1)).2.map (encR encX))], .cells [.fn (.func 268) [] []], .row 9 1 (accE f l j).length, .row 27 5 (accE f l j).length] : MS)) (fun j => ([.cells (encS (.mk k (.mk k1 i1 :: rest))).cells, .cells (encV (.mk n1 m1 s1 c1 w1)).cells, .cells (encV (.mk n2 m2 s2 c2 w2)).cells, .cells [.int .u64 0, .int .u64 0, .lst0, .lst0, .lst0], .cells [encErr 13], .cells [.int .u64 0, .int .u64 0, .lst (some (S.length + 9)) 1 (((accE f l j).map fun e => encX e.1)), .lst0, .lst (some (S.length + 10)) 5 (((accE f l j).map fun e => encV e.2))], .cells [.lst none 3 ((restE cmpX (s1.zip w1) (s2.zip w2) (j + 1)).1.map (encR encX))], .cells [.lst none 3 ((restE cmpX (s1.zip w1) (s2.zip w2) (j + 1)).2.map (encR encX))], .cells [.fn (.func 268) [] []], .row 9 1 (accE f l j).length, .row 27 5 (accE f l j).length] : MS)) (fun j => V) (fun j => V) (fun j => V) V
  (fun j o ho n hn => by
   simp only [List.mem_cons, List.not_mem_nil, or_false] at ho
   rcases ho with rfl | rfl | rfl | rfl | rfl | rfl | rfl | rfl | rfl | rfl | rfl
   ·exact clo_S _ _
   ·exact clo_V _ _
   ·exact clo_V _ _
   ·exact clo_Z _
   ·exact clo_1 .iface0
   ·exact clo_outX (by simp only [zE, zF0, List.length_nil] at hn; omega) (by simp only [zE, zF0, List.length_nil] at hn; omega)
   ·exact clo_bx _ _
   ·exact clo_bx _ _
   ·exact clo_1 (.fn _ _ _ (fun _ h => by cases h) (fun _ h => by cases h))
   ·exact trivial
   ·exact trivial)
  (fun j o ho n hn => by
   simp only [List.mem_cons, List.not_mem_nil, or_false] at ho
   rcases ho with rfl | rfl | rfl | rfl | rfl | rfl | rfl | rfl | rfl | rfl | rfl
   ·exact clo_S _ _
   ·exact clo_V _ _
   ·exact clo_V _ _
   ·exact clo_Z _
   ·exact clo_1 .iface0
   ·exact clo_outX (by simp only [zE, zF0, List.length_nil] at hn; omega) (by simp only [zE, zF0, List.length_nil] at hn; omega)
   ·exact clo_bx _ _
   ·exact clo_bx _ _
   ·exact clo_1 (.fn _ _ _ (fun _ h => by cases h) (fun _ h => by cases h))
   ·exact trivial
   ·exact trivial)
  (fun j o ho n hn => by
   simp only [List.mem_cons, List.not_mem_nil, or_false] at ho
   rcases ho with rfl | rfl | rfl | rfl | rfl | rfl | rfl | rfl | rfl | rfl | rfl
   ·exact clo_S _ _
   ·exact clo_V _ _
   ·exact clo_V _ _
   ·exact clo_Z _
   ·exact clo_1 (.iface _ _ (.int _ _))
   ·exact clo_outX (by simp only [zE, zF0, List.length_nil] at hn; omega) (by simp only [zE, zF0, List.length_nil] at hn; omega)
   ·exact clo_bx _ _
   ·exact clo_bx _ _
   ·exact clo_1 (.fn _ _ _ (fun _ h => by cases h) (fun _ h => by cases h))
   ·exact trivial
   ·exact trivial) rfl co296 rfl (by simp) (xmerged_iter cmpX _ co268 (fun a b S => strCmp_spec a b S) (s1.zip w1) (s2.zip w2) (S.length + 6) (S.length + 7) (S.length + 8) (S.length + 12) (by omega)) (fun j => by simp) (fun j hj => ⟨zL4 (k := 6) rfl, zL4 (k := 7) rfl, zL4 (k := 8) rfl, ?_⟩) (fun j s q => by simp) rfl (fun y hy => by obtain ⟨i, _, rfl⟩ := List.mem_map.1 hy; rfl) ?_ ?_ ?_
 ·rw [set_mid_ (k := 6) rfl, set_mid_ (k := 7) rfl]; rfl
 ·
  intro j y hy hbef L'
  rw [zI0] at hy
  obtain ⟨e, hs, rfl⟩ := Option.map_eq_some_iff.1 hy
  replace hs : l[j]? = some e := by rw [← hl]; exact hs
  have hjl : j < l.length := (zD.1 hs).1
  have hacc := acc_all (f := f) (by omega) hbef
  have hal : (accE f l j).length ≤ 1000 := by have h1 := goE_len hacc; rw [List.length_take] at h1; omega
  refine qR V <| qO V <| zS4 V zm325 <| qO V <| zY2 V V V sz325 V (one_encEX e) (zA V) <| qN ?_
  refine ⟨rfl, [_], rfl, ?_⟩
  rw [zO (S ++ _)]
  refine mwp_abs fun R hR => ?_
  have hE0 : ∀ (x : MObj) (A' : MS), A'.length = S.length + 11 → (A' ++ R)[((S ++ ([.cells (encS (.mk k (.mk k1 i1 :: rest))).cells, .cells (encV (.mk n1 m1 s1 c1 w1)).cells, .cells (encV (.mk n2 m2 s2 c2 w2)).cells, .cells [.int .u64 0, .int .u64 0, .lst0, .lst0, .lst0], .cells [.iface0], .cells [.int .u64 0, .int .u64 0, .lst (some (S.length + 9)) 1 (((accE f l j).map fun e => encX e.1)), .lst0, .lst (some (S.length + 10)) 5 (((accE f l j).map fun e => encV e.2))], .cells [.lst none 3 ((restE cmpX (s1.zip w1) (s2.zip w2) (j + 1)).1.map (encR encX))], .cells [.lst none 3 ((restE cmpX (s1.zip w1) (s2.zip w2) (j + 1)).2.map (encR encX))], .cells [.fn (.func 268) [] []], .row 9 1 (accE f l j).length, .row 27 5 (accE f l j).length] : MS)) ++ x :: L').length]? = some (.cells (encE encX e).cells) := fun x A' hA => by rw [hR]; exact get_rt0 (by simpa using hA)
  have hE : ∀ (x : MObj) (A' Z : MS), A'.length = S.length + 11 → (A' ++ (R ++ Z))[((S ++ ([.cells (encS (.mk k (.mk k1 i1 :: rest))).cells, .cells (encV (.mk n1 m1 s1 c1 w1)).cells, .cells (encV (.mk n2 m2 s2 c2 w2)).cells, .cells [.int .u64 0, .int .u64 0, .lst0, .lst0, .lst0], .cells [.iface0], .cells [.int .u64 0, .int .u64 0, .lst (some (S.length + 9)) 1 (((accE f l j).map fun e => encX e.1)), .lst0, .lst (some (S.length + 10)) 5 (((accE f l j).map fun e => encV e.2))], .cells [.lst none 3 ((restE cmpX (s1.zip w1) (s2.zip w2) (j + 1)).1.map (encR encX))], .cells [.lst none 3 ((restE cmpX (s1.zip w1) (s2.zip w2) (j + 1)).2.map (encR encX))], .cells [.fn (.func 268) [] []], .row 9 1 (accE f l j).length, .row 27 5 (accE f l j).length] : MS)) ++ x :: L').length]? = some (.cells (encE encX e).cells) := fun x A' Z hA => by rw [hR]; exact get_rtz (by simpa using hA) Z
  refine zB0 <| zB ?_
  have hof := fun S => xof_spec k1 i1 f e (fun y hy S => hb _ (hmem e (zW hs) y hy).1 y (hmem e (zW hs) y hy).2 S) S
  rcases hf : ofE f e with _ | ⟨⟨n3, m3, s3, c3, w3⟩⟩ <;> rw [hf] at hof
  ·
   refine zW0 [9, 10] [_, (S ++ [.cells (encS (.mk k (.mk k1 i1 :: rest))).cells, .cells (encV (.mk n1 m1 s1 c1 w1)).cells, .cells (encV (.mk n2 m2 s2 c2 w2)).cells, .cells [.int .u64 0, .int .u64 0, .lst0, .lst0, .lst0], .cells [.iface0], .cells [.int .u64 0, .int .u64 0, .lst (some (S.length + 9)) 1 (((accE f l j).map fun e => encX e.1)), .lst0, .lst (some (S.length + 10)) 5 (((accE f l j).map fun e => encV e.2))], .cells [.lst none 3 ((restE cmpX (s1.zip w1) (s2.zip w2) (j + 1)).1.map (encR encX))], .cells [.lst none 3 ((restE cmpX (s1.zip w1) (s2.zip w2) (j + 1)).2.map (encR encX))], .cells [.fn (.func 268) [] []], .row 9 1 (accE f l j).length, .row 27 5 (accE f l j).length]) ++ (R ++ [.cells [.int .u64 0, .int .u64 0, .lst0, .lst0, .lst0]]), (S ++ [.cells (encS (.mk k (.mk k1 i1 :: rest))).cells, .cells (encV (.mk n1 m1 s1 c1 w1)).cells, .cells (encV (.mk n2 m2 s2 c2 w2)).cells, .cells [.int .u64 0, .int .u64 0, .lst0, .lst0, .lst0], .cells [.iface0], .cells [.int .u64 0, .int .u64 0, .lst (some (S.length + 9)) 1 (((accE f l j).map fun e => encX e.1)), .lst0, .lst (some (S.length + 10)) 5 (((accE f l j).map fun e => encV e.2))], .cells [.lst none 3 ((restE cmpX (s1.zip w1) (s2.zip w2) (j + 1)).1.map (encR encX))], .cells [.lst none 3 ((restE cmpX (s1.zip w1) (s2.zip w2) (j + 1)).2.map (encR encX))], .cells [.fn (.func 268) [] []], .row 9 1 (accE f l j).length, .row 27 5 (accE f l j).length]) ++ (R ++ [.cells (encV noV).cells])] mo (by decide) V V V V ?_
   refine zN V V (.cons (zG V V zG3 Vv) (.cons (zG V V zG3 Vv) (.nil))) <| zN V V (.cons (zN4 V V V ta51 V Vv) (.cons (zN4 V V V ta51 V Vv) (.nil))) <| zN V V (.cons (zI V zO0 sz53 (by decide) V V V (show _ = some (encS (.mk k1 i1)) from V) Vv) (.cons (zI V zO0 sz53 (by decide) V V V (show _ = some (encS (.mk k1 i1)) from V) Vv) (.nil))) ?_
   refine zN V V (.cons (zL V V ta53 V Vv) (.cons (zL V V ta53 V Vv) (.nil))) <| zN V V (.cons (zJ V V (hE0 _ _ (by simp)) ta325 V Vv) (.cons (zJ V V (hE _ _ _ (by simp)) ta325 V Vv) (.nil))) ?_
   refine zN V V (.cons (zT0 V V V co269 (hof _)) (.cons (zT0 V V V co269 (hof _)) (.nil))) <| zN V V (.cons (zY V V Vv) (.cons (zY V V Vv) (.nil))) <| zN V V (.cons (zS V V V Vv) (.cons (zS V V V Vv) (.nil))) <| zN V V (.cons (zS V V V Vv) (.cons (zS V V V Vv) (.cons (zS V V V Vv) (.nil)))) <| zV0 V V V V (zS4 V zm27 ⟨rfl, zO ..⟩) <| zV0 V V V V (zK4 V V V (get_end V) sz27 V V (zA V) ⟨rfl, set_end⟩) <| dO V V V (zZ0 V V Vv) <| zQ0 <| zB <| zB <| qR V <| qM V V V <| qO V <| zS2 V zA0 V V (.inr Vv) <| qN <| zU V (V) <| zB <| qR V <| qO V <| zR1 V zN1 zm27 .nil (by kernel_rfl) ?_
   refine qM V V V <| qO V <| zB4 V V V V sz27 V V (zA V) V <| qO V <| zB4 V V V V sz43 V V (zA V) V <| qN <| zH ?_
   exact .inr ⟨okE_none hs hf, rfl, [_, _], by rw [hR]; simp only [zO, List.cons_append, List.nil_append]; rfl⟩
  ·
   refine zW0 [9, 10] [_, (S ++ [.cells (encS (.mk k (.mk k1 i1 :: rest))).cells, .cells (encV (.mk n1 m1 s1 c1 w1)).cells, .cells (encV (.mk n2 m2 s2 c2 w2)).cells, .cells [.int .u64 0, .int .u64 0, .lst0, .lst0, .lst0], .cells [.iface0], .cells [.int .u64 0, .int .u64 0, .lst (some (S.length + 9)) 1 (((accE f l j).map fun e => encX e.1)), .lst0, .lst (some (S.length + 10)) 5 (((accE f l j).map fun e => encV e.2))], .cells [.lst none 3 ((restE cmpX (s1.zip w1) (s2.zip w2) (j + 1)).1.map (encR encX))], .cells [.lst none 3 ((restE cmpX (s1.zip w1) (s2.zip w2) (j + 1)).2.map (encR encX))], .cells [.fn (.func 268) [] []], .row 9 1 (accE f l j).length, .row 27 5 (accE f l j).length]) ++ (R ++ [.cells [.int .u64 0, .int .u64 0, .lst0, .lst0, .lst0]]), (S ++ [.cells (encS (.mk k (.mk k1 i1 :: rest))).cells, .cells (encV (.mk n1 m1 s1 c1 w1)).cells, .cells (encV (.mk n2 m2 s2 c2 w2)).cells, .cells [.int .u64 0, .int .u64 0, .lst0, .lst0, .lst0], .cells [.iface0], .cells [.int .u64 0, .int .u64 0, .lst (some (S.length + 9)) 1 (((accE f l j).map fun e => encX e.1)), .lst0, .lst (some (S.length + 10)) 5 (((accE f l j).map fun e => encV e.2))], .cells [.lst none 3 ((restE cmpX (s1.zip w1) (s2.zip w2) (j + 1)).1.map (encR encX))], .cells [.lst none 3 ((restE cmpX (s1.zip w1) (s2.zip w2) (j + 1)).2.map (encR encX))], .cells [.fn (.func 268) [] []], .row 9 1 (accE f l j).length, .row 27 5 (accE f l j).length]) ++ (R ++ [.cells (encV (.mk n3 m3 s3 c3 w3)).cells])] mo (by decide) V V V V ?_
   refine zN V V (.cons (zG V V zG3 Vv) (.cons (zG V V zG3 Vv) (.nil))) <| zN V V (.cons (zN4 V V V ta51 V Vv) (.cons (zN4 V V V ta51 V Vv) (.nil))) <| zN V V (.cons (zI V zO0 sz53 (by decide) V V V (show _ = some (encS (.mk k1 i1)) from V) Vv) (.cons (zI V zO0 sz53 (by decide) V V V (show _ = some (encS (.mk k1 i1)) from V) Vv) (.nil))) ?_
   refine zN V V (.cons (zL V V ta53 V Vv) (.cons (zL V V ta53 V Vv) (.nil))) <| zN V V (.cons (zJ V V (hE0 _ _ (by simp)) ta325 V Vv) (.cons (zJ V V (hE _ _ _ (by simp)) ta325 V Vv) (.nil))) ?_
   refine zN V V (.cons (zT0 V V V co269 (hof _)) (.cons (zT0 V V V co269 (hof _)) (.nil))) <| zN V V (.cons (zY V V Vv) (.cons (zY V V Vv) (.nil))) <| zN V V (.cons (zS V V V Vv) (.cons (zS V V V Vv) (.nil))) <| zN V V (.cons (zS V V V Vv) (.cons (zS V V V Vv) (.cons (zS V V V Vv) (.nil)))) <| zV0 V V V V (zS4 V zm27 ⟨rfl, zO ..⟩) <| zV0 V V V V (zK4 V V V (get_end V) sz27 V V (zA V) ⟨rfl, set_end⟩) <| dO V V V (zZ0 V V Vv) <| zQ0 <| zB <| zB <| qR V <| qM V V V <| qO V <| zV3 V zA0 V V (.inr Vv) <| qN <| zK V (V) <| zX ?_
   refine zW0 [5, 10, 12, 14] [_, (S ++ [.cells (encS (.mk k (.mk k1 i1 :: rest))).cells, .cells (encV (.mk n1 m1 s1 c1 w1)).cells, .cells (encV (.mk n2 m2 s2 c2 w2)).cells, .cells [.int .u64 0, .int .u64 0, .lst0, .lst0, .lst0], .cells [.iface0], .cells [.int .u64 0, .int .u64 0, .lst (some (S.length + 9)) 1 (((accE f l j).map fun e => encX e.1)), .lst0, .lst (some (S.length + 10)) 5 (((accE f l j).map fun e => encV e.2))], .cells [.lst none 3 ((restE cmpX (s1.zip w1) (s2.zip w2) (j + 1)).1.map (encR encX))], .cells [.lst none 3 ((restE cmpX (s1.zip w1) (s2.zip w2) (j + 1)).2.map (encR encX))], .cells [.fn (.func 268) [] []], .row 9 1 ((accE f l j).length + 1), .row 27 5 (accE f l j).length]) ++ (R ++ [.cells (encV (.mk n3 m3 s3 c3 w3)).cells]), (S ++ [.cells (encS (.mk k (.mk k1 i1 :: rest))).cells, .cells (encV (.mk n1 m1 s1 c1 w1)).cells, .cells (encV (.mk n2 m2 s2 c2 w2)).cells, .cells [.int .u64 0, .int .u64 0, .lst0, .lst0, .lst0], .cells [.iface0], .cells [.int .u64 0, .int .u64 0, .lst (some (S.length + 9)) 1 (((accE f l j).map fun e => encX e.1)), .lst0, .lst (some (S.length + 10)) 5 (((accE f l j).map fun e => encV e.2))], .cells [.lst none 3 ((restE cmpX (s1.zip w1) (s2.zip w2) (j + 1)).1.map (encR encX))], .cells [.lst none 3 ((restE cmpX (s1.zip w1) (s2.zip w2) (j + 1)).2.map (encR encX))], .cells [.fn (.func 268) [] []], .row 9 1 ((accE f l j).length + 1), .row 27 5 ((accE f l j).length + 1)]) ++ (R ++ [.cells (encV (.mk n3 m3 s3 c3 w3)).cells]), (S ++ [.cells (encS (.mk k (.mk k1 i1 :: rest))).cells, .cells (encV (.mk n1 m1 s1 c1 w1)).cells, .cells (encV (.mk n2 m2 s2 c2 w2)).cells, .cells [.int .u64 0, .int .u64 0, .lst0, .lst0, .lst0], .cells [.iface0], .cells [.int .u64 0, .int .u64 0, .lst (some (S.length + 9)) 1 ((((accE f l j).map fun e => encX e.1) ++ [encX e.1])), .lst0, .lst (some (S.length + 10)) 5 (((accE f l j).map fun e => encV e.2))], .cells [.lst none 3 ((restE cmpX (s1.zip w1) (s2.zip w2) (j + 1)).1.map (encR encX))], .cells [.lst none 3 ((restE cmpX (s1.zip w1) (s2.zip w2) (j + 1)).2.map (encR encX))], .cells [.fn (.func 268) [] []], .row 9 1 ((accE f l j).length + 1), .row 27 5 ((accE f l j).length + 1)]) ++ (R ++ [.cells (encV (.mk n3 m3 s3 c3 w3)).cells]), (S ++ [.cells (encS (.mk k (.mk k1 i1 :: rest))).cells, .cells (encV (.mk n1 m1 s1 c1 w1)).cells, .cells (encV (.mk n2 m2 s2 c2 w2)).cells, .cells [.int .u64 0, .int .u64 0, .lst0, .lst0, .lst0], .cells [.iface0], .cells [.int .u64 0, .int .u64 0, .lst (some (S.length + 9)) 1 ((((accE f l j).map fun e => encX e.1) ++ [encX e.1])), .lst0, .lst (some (S.length + 10)) 5 ((((accE f l j).map fun e => encV e.2) ++ [encV (.mk n3 m3 s3 c3 w3)]))], .cells [.lst none 3 ((restE cmpX (s1.zip w1) (s2.zip w2) (j + 1)).1.map (encR encX))], .cells [.lst none 3 ((restE cmpX (s1.zip w1) (s2.zip w2) (j + 1)).2.map (encR encX))], .cells [.fn (.func 268) [] []], .row 9 1 ((accE f l j).length + 1), .row 27 5 ((accE f l j).length + 1)]) ++ (R ++ [.cells (encV (.mk n3 m3 s3 c3 w3)).cells])] mo (by decide) V V V V ?_
   refine zN V V (.cons (zG V V zZ2 Vv) (.cons (zG V V zZ2 Vv) (.cons (zG V V zZ2 Vv) (.nil)))) <| dO V V V (zN4 V V V ta23 V Vv) <| zN V V (.cons (zG V V fo325_0 Vv) (.cons (zG V V fo325_0 Vv) (.cons (zG V V fo325_0 Vv) (.nil)))) <| zN V V (.cons (zJ V V (hE _ _ _ (by simp)) ta9 V Vv) (.cons (zJ V V (hE _ _ _ (by simp)) ta9 V Vv) (.cons (zJ V V (hE _ _ _ (by simp)) ta9 V Vv) (.nil)))) ?_
   refine dO V V V (zL1 V zE0 el9 V V (by decide) (by decide) V V Vv) ?_
   refine zV0 V V V V (op_append_mid V zE0 el9 V V V (by simp) (by simp; omega) (by simp; omega) V Vv) ?_
   refine zN V V (.cons (zG V V zG2 Vv) (.cons (zG V V zG2 Vv) (.cons (zG V V zG2 Vv) (.nil)))) <| zN V V (.cons (zN4 V V V ta25 V Vv) (.cons (zN4 V V V ta25 V Vv) (.nil))) <| zN V V (.cons (zJ V V (get_end (by simp)) ta27 V Vv) (.cons (zJ V V (get_end (by simp)) ta27 V Vv) (.cons (zJ V V (get_end (by simp)) ta27 V Vv) (.cons (zJ V V (get_end (by simp)) ta27 V Vv) (.nil))))) ?_
   refine zN V V (.cons (zL1 V zG0 el27 V V (by decide) (by decide) V V Vv) (.cons (zL1 V zG0 el27 V V (by decide) (by decide) V V Vv) (.nil))) ?_
   refine zV0 V V V V (op_append_mid V zG0 el27 V V V (by simp) (by simp; omega) (by simp; omega) V Vv) ?_
   refine zN V V (.cons (zG V V zZ2 Vv) (.cons (zG V V zZ2 Vv) (.nil))) <| zV0 V V V V (zB4 V V V V sz23 V V (zA V) V Vv) <| dO V V V (zG V V zG2 Vv) <| zV0 V V V V (zB4 V V V V sz25 V V (zA V) V Vv) <| zQ0 ?_
   exact .inl ⟨okE_some hs hf, rfl, [_, _], by rw [hR, acc_next hacc hs hf, List.map_append, List.map_append, len_snoc (l := accE f l j)]; simp only [zO, List.cons_append, List.nil_append]; rfl⟩
 ·
  intro hall
  rw [zF, show (mergeE cmpX (s1.zip w1) (s2.zip w2)).length = l.length from congrArg List.length hl]
  replace hall := acc_all (f := f) (j := l.length) (Nat.le_refl _) (fun i hi => hall i (by rw [zF]; rw [← hl] at hi; exact hi))
  rw [List.take_length] at hall
  rw [zO S]
  refine zB <| qR V <| qL V V V V ta27 V <| qO V <| zZ V V V V sz27 V V (zA V) V <| qO V <| zZ V V V V sz43 V V (zA V) V <| qN <| zH ?_
  exact ret_cell_cell (.inr V) Tryz.results229 V V ta27 V (.agg (.cons (.refl _) (.cons (.refl _) (.cons (.trans (.view _ _ _) (.of_eq (by rw [List.map_map]; rfl))) (.cons (.nil 1) (.cons (.trans (.view _ _ _) (.of_eq (by rw [encVs_eq, List.map_map]; rfl))) .nil)))))) (zO1 _ (.mk 0 0 ((accE f l l.length).map (·.1)) [] ((accE f l l.length).map (·.2)))) V V ta43 V (.refl _) (.iface0) ⟨by rw [show mapsF f (.mk n1 m1 s1 c1 w1) (.mk n2 m2 s2 c2 w2) = some _ from by rw [mapsF, hl, hall]; rfl]; rfl, rfl⟩
 ·
  intro j y hy hp
  rw [zI0] at hy
  obtain ⟨e, hs, rfl⟩ := Option.map_eq_some_iff.1 hy
  replace hs : l[j]? = some e := by rw [← hl]; exact hs
  rw [zO S]
  exact ret_cell_cell (.inr V) Tryz.results229 V V ta27 V (.agg (.cons (.refl _) (.cons (.refl _) (.cons (.nil 1) (.cons (.nil 1) (.cons (.nil 5) .nil)))))) (zO1 _ (noV)) V V ta43 V (.refl _) (.iface _ _ (.int _ _)) ⟨by rw [show mapsF f (.mk n1 m1 s1 c1 w1) (.mk n2 m2 s2 c2 w2) = none from by rw [mapsF, hl, bad_none hs hp]; rfl]; rfl, rfl⟩
end
theorem valIs_spec (s : Sch) (x : Val) (hx : okV x) (S : MS) : MCalls Tryz.prog 116 [encS s, encV x] S fun v σ' => v = .bool (isF 16 s && isVF s x) ∧ σ' = S := by
 obtain ⟨k, ins⟩ := s
 obtain ⟨n, m, s, c, w⟩ := x
 refine zR Tryz.func116 V Tryz.ntmps116 (zA V) ?_
 refine zB <| qR V <| qB V V V V V <| qB V V V V V <| qA V V V <| qN <| zB <| qR V <| qL V V V V ta53 V ?_
 refine qX V V V V co140 (Is_spec (.mk k ins) _) ?_
 refine qM V V V ?_
 refine zH0 (fun h7 => ?_) (fun h7 => ?_)
 ·
  refine qL V V V V ta53 V <| qL V V V V ta27 V ?_
  refine qX V V V V co165 (isV_spec 16 (.mk k ins) h7 (.mk n m s c w) hx _) ?_
  refine qP V V V V <| qA V V V <| qN <| zH ?_
  exact zT (.inr V) Tryz.results116 V (.of_eq (by simp_all)) (.bool _) Vv
 ·
  refine qS V <| qS V <| qS V <| qP V V V V <| qA V V V <| qN <| zH ?_
  exact zT (.inr V) Tryz.results116 V (.of_eq (by simp_all)) (.bool _) Vv
theorem goP_snoc {F : Sch → Val → Val → Option Val} : ∀ {ins : List Sch} {w1 w2 : List Val} {i : Nat} {acc : List Val} {s : Sch} {x y v : Val}, goP ((ins.take i).map F) w1 w2 = some acc → ins[i]? = some s → w1[i]? = some x → w2[i]? = some y → F s x y = some v → goP ((ins.take (i + 1)).map F) w1 w2 = some (acc ++ [v])
 | [], _, _, _, _, _, _, _, _, _, h, _, _, _ => by simp at h
 | _ :: _, [], _, _, _, _, _, _, _, _, _, h, _, _ => by simp at h
 | _ :: _, _ :: _, [], _, _, _, _, _, _, _, _, _, h, _ => by simp at h
 | s0 :: ins, x0 :: w1, y0 :: w2, 0, acc, s, x, y, v, h, hs, hx, hy, hv => by
  simp only [List.getElem?_cons_zero, Option.some.injEq] at hs hx hy
  subst hs hx hy
  simp [goP] at h
  subst h
  simp [goP, hv]
 | s0 :: ins, x0 :: w1, y0 :: w2, i + 1, acc, s, x, y, v, h, hs, hx, hy, hv => by
  simp only [List.getElem?_cons_succ] at hs hx hy
  rw [List.take_succ_cons, List.map_cons, goP] at h ⊢
  cases hF : F s0 x0 y0 with
  | none => rw [hF] at h; cases h
  | some u =>
   rw [hF] at h
   cases hg : goP ((ins.take i).map F) w1 w2 with
   | none => rw [hg] at h; cases h
   | some l =>
    rw [hg] at h
    simp at h
    subst h
    dsimp only
    rw [goP_snoc hg hs hx hy hv]
    rfl
theorem goP_bad {F : Sch → Val → Val → Option Val} : ∀ {ins : List Sch} {w1 w2 : List Val} {i : Nat} {s : Sch} {x y : Val}, ins[i]? = some s → w1[i]? = some x → w2[i]? = some y → F s x y = none → goP (ins.map F) w1 w2 = none
 | [], _, _, _, _, _, _, h, _, _, _ => by simp at h
 | _ :: _, [], _, _, _, _, _, _, h, _, _ => by simp at h
 | _ :: _, _ :: _, [], _, _, _, _, _, _, h, _ => by simp at h
 | s0 :: ins, x0 :: w1, y0 :: w2, 0, s, x, y, hs, hx, hy, hv => by
  simp only [List.getElem?_cons_zero, Option.some.injEq] at hs hx hy
  subst hs hx hy
  simp [goP, hv]
 | s0 :: ins, x0 :: w1, y0 :: w2, i + 1, s, x, y, hs, hx, hy, hv => by
  simp only [List.getElem?_cons_succ] at hs hx hy
  rw [List.map_cons, goP, goP_bad hs hx hy hv]
  cases F s0 x0 y0 <;> rfl
theorem goP_len {fs : List (Val → Val → Option Val)} : ∀ {w1 w2 : List Val} {l : List Val}, goP fs w1 w2 = some l → l.length ≤ fs.length := by
 induction fs with
 | nil => intro w1 w2 l h; simp [goP] at h; subst h; simp
 | cons f fs ih =>
  intro w1 w2 l h
  cases w1 with
  | nil => simp [goP] at h; subst h; simp
  | cons x w1 =>
   cases w2 with
   | nil => simp [goP] at h; subst h; simp
   | cons y w2 =>
    rw [goP] at h
    cases hf : f x y with
    | none => rw [hf] at h; cases h
    | some v =>
     rw [hf] at h
     cases hg : goP fs w1 w2 with
     | none => rw [hg] at h; cases h
     | some q => rw [hg] at h; simp at h; subst h; have := ih hg; simp; omega
theorem cl_outV {acc : List Val} {t n : Nat} (ht : t < n) : (MObj.cells [.int .u64 0, .int .u64 0, .lst0, .lst0, .lst (some t) 5 (encVs acc)]).cl n := by
 intro x hx
 simp only [List.mem_cons, List.not_mem_nil, or_false] at hx
 rcases hx with rfl | rfl | rfl | rfl | rfl
 ·exact .int _ _
 ·exact .int _ _
 ·exact .lst0
 ·exact .lst0
 ·rw [encVs_eq]; exact cl_lstT ht (fun v => zO1 n v) (fun v => by cases v; exact .inl rfl)
theorem cap_t {v : Val} (h : largeF v = true) : capF (some v) = none := by simp [capF, h]
theorem cap_f {v : Val} (h : largeF v = false) : capF (some v) = some v := by simp [capF, h]
theorem pairs_specJ (k : Int) (ins : List Sch) (hil : ins.length ≤ 40) (f : Sch → Val → Val → Option Val) (n1 m1 : Int) (s1 : List Bs) (c1 : List (List Tk)) (w1 : List Val) (n2 m2 : Int) (s2 : List Bs) (c2 : List (List Tk)) (w2 : List Val) (hl1 : w1.length = ins.length) (hl2 : w2.length = ins.length) (hb : ∀ (i : Nat) (s : Sch) (x y : Val), ins[i]? = some s → w1[i]? = some x → w2[i]? = some y → ∀ S : MS, MCalls Tryz.prog 188 [encS s, encV x, encV y] S fun v σ' => v = encO (f s x y) ∧ σ' = S) (S : MS) : MCalls Tryz.prog 230 [encS (.mk k ins), encV (.mk n1 m1 s1 c1 w1), encV (.mk n2 m2 s2 c2 w2)] S fun v σ' => v = encO (pairF2 (ins.map f) (.mk n1 m1 s1 c1 w1) (.mk n2 m2 s2 c2 w2)) ∧ σ' = S := by
 refine zR Tryz.func230 V Tryz.ntmps230 (zA V) ?_
 have hlen : ins.length ≤ maxLen := by simp only [maxLen]; omega
 refine zB <| qR V <| qB V V V V V <| qB V V V V V <| qB V V V V V <| qO V <| zM0 V zm27 V V <| qA V V V <| qN <| zB <| qR V <| qO V <| zM0 V zm27 V V <| qN <| zB <| zB <| qR V <| qF V V V zG3 <| qL V V V V ta51 V <| qE V V zO0 V <| qM V V V <| qN ?_
 refine zB0 <| mwp_cellrowAt 4 4 27 5 V V (Nat.le_refl _) V V ?_
 refine zO4 (α := Nat × List Val) [(4, _), (5, _), (6, _), (8, _), (14, _), (15, _)] (fun x => [(16, .int .i64 (x.1 : Int))]) (fun x => [.cells (encS (.mk k ins)).cells, .cells (encV (.mk n1 m1 s1 c1 w1)).cells, .cells (encV (.mk n2 m2 s2 c2 w2)).cells, .cells [.int .u64 0, .int .u64 0, .lst0, .lst0, .lst0], .cells [.int .u64 0, .int .u64 0, .lst0, .lst0, .lst (some (S.length + 5)) 5 (encVs x.2)], .row 27 5 x.2.length]) (fun x => x.1 ≤ ins.length ∧ goP ((ins.take x.1).map f) w1 w2 = some x.2) (fun x => ins.length - x.1) (⟨0, []⟩) (Nat.le_refl _) (.keep V (.keep V (.keep V (.keep V (.keep V (.keep V (.nil))))))) (.keep V (.nil)) (⟨by simp, by simp [goP]⟩) (V) ?_
 rintro ⟨i, acc⟩ ⟨hi, he⟩
 dsimp only at hi he ⊢
 have hal : acc.length ≤ 1000 := by have h1 := goP_len he; rw [zF, List.length_take] at h1; omega
 refine zB <| qR V <| qC V V V V V <| qN <| zB ?_
 refine zM V (fun h17 => ?_) (fun h17 => ?_)
 ·
  rw [zA3] at h17
  have hlt : i < ins.length := by simpa using h17
  obtain ⟨⟨k1, i1⟩, hs⟩ : ∃ q, ins[i]? = some q := ⟨_, zC hlt⟩
  obtain ⟨x, hx⟩ : ∃ q, w1[i]? = some q := ⟨_, zC (by omega)⟩
  obtain ⟨y, hy⟩ : ∃ q, w2[i]? = some q := ⟨_, zC (by omega)⟩
  obtain ⟨xn, xm, xs, xc, xw⟩ := x
  obtain ⟨yn, ym, ys, yc, yw⟩ := y
  refine zX <| zB <| zB0 <| zB <| qR V <| qM V V V <| qO V <| zI V zO0 sz53 (by decide) V V V (encSs_get hs) ?_
  refine qO V <| zL V V ta53 V <| qO V <| zM0 V zm53 V V <| qA V V V <| qO V <| zZ V V V V sz53 V V (zA V) V <| qN <| zB ?_
  have hof := hb i _ _ _ hs hx hy
  rcases hf : f (.mk k1 i1) (.mk xn xm xs xc xw) (.mk yn ym ys yc yw) with _ | ⟨⟨n3, m3, s3, c3, w3⟩⟩ <;> rw [hf] at hof
  ·
   refine zW0 [15, 16] [_, S ++ [.cells (encS (.mk k ins)).cells, .cells (encV (.mk n1 m1 s1 c1 w1)).cells, .cells (encV (.mk n2 m2 s2 c2 w2)).cells, .cells [.int .u64 0, .int .u64 0, .lst0, .lst0, .lst0], .cells [.int .u64 0, .int .u64 0, .lst0, .lst0, .lst (some (S.length + 5)) 5 ((encVs acc))], .row 27 5 acc.length, .cells (encS (.mk k1 i1)).cells, .cells [.int .u64 0, .int .u64 0, .lst0, .lst0, .lst0]], S ++ [.cells (encS (.mk k ins)).cells, .cells (encV (.mk n1 m1 s1 c1 w1)).cells, .cells (encV (.mk n2 m2 s2 c2 w2)).cells, .cells [.int .u64 0, .int .u64 0, .lst0, .lst0, .lst0], .cells [.int .u64 0, .int .u64 0, .lst0, .lst0, .lst (some (S.length + 5)) 5 ((encVs acc))], .row 27 5 acc.length, .cells (encS (.mk k1 i1)).cells, .cells (encV noV).cells]] mo (by decide) V V V V ?_
   refine zN V V (.cons (zN0 V V V ta53 V Vv) (.cons (zN0 V V V ta53 V Vv) (.nil))) <| zN V V (.cons (zG V V zG2 Vv) (.cons (zG V V zG2 Vv) (.nil))) <| zN V V (.cons (zN0 V V V ta25 V Vv) (.cons (zN0 V V V ta25 V Vv) (.nil))) <| zN V V (.cons (zY V V Vv) (.cons (zY V V Vv) (.nil))) <| zN V V (.cons (zI V zG0 sz27 (by decide) V V V (zC4 hx) Vv) (.cons (zI V zG0 sz27 (by decide) V V V (zC4 hx) Vv) (.nil))) ?_
   refine zN V V (.cons (zL V V ta27 V Vv) (.cons (zL V V ta27 V Vv) (.nil))) <| zN V V (.cons (zG V V zG2 Vv) (.cons (zG V V zG2 Vv) (.nil))) <| zN V V (.cons (zN0 V V V ta25 V Vv) (.cons (zN0 V V V ta25 V Vv) (.nil))) <| zN V V (.cons (zY V V Vv) (.cons (zY V V Vv) (.nil))) <| zN V V (.cons (zI V zG0 sz27 (by decide) V V V (zC4 hy) Vv) (.cons (zI V zG0 sz27 (by decide) V V V (zC4 hy) Vv) (.nil))) ?_
   refine zN V V (.cons (zL V V ta27 V Vv) (.cons (zL V V ta27 V Vv) (.nil))) <| zN V V (.cons (zT0 V V V co188 (hof _)) (.cons (zT0 V V V co188 (hof _)) (.nil))) <| zN V V (.cons (zY V V Vv) (.cons (zY V V Vv) (.nil))) <| zN V V (.cons (zS V V V Vv) (.cons (zS V V V Vv) (.nil))) <| zN V V (.cons (zS V V V Vv) (.cons (zS V V V Vv) (.cons (zS V V V Vv) (.nil)))) <| zV0 V V V V (zM0 V zm27 V V Vv) <| zV0 V V V V (zZ V V V V sz27 V V (zA V) V Vv) <| dO V V V (zZ0 V V Vv) <| zQ0 <| zB <| zB <| qR V <| qM V V V <| qO V <| zS2 V zA0 V V (.inr Vv) <| qN <| zU V (V) <| zB <| qR V <| qO V <| zR1 V zN1 zm27 .nil (by kernel_rfl) ?_
   refine qM V V V <| qO V <| zZ V V V V sz27 V V (zA V) V <| qA V V V <| qN <| zH ?_
   exact zJ1 (.inr V) Tryz.results230 V V ta27 V (.agg (.cons (.refl _) (.cons (.refl _) (.cons (.nil 1) (.cons (.nil 1) (.cons (.nil 5) .nil)))))) (zO1 _ (noV)) V (.refl _) (.iface _ _ (.int _ _)) ⟨by rw [show pairF2 (ins.map f) (.mk n1 m1 s1 c1 w1) (.mk n2 m2 s2 c2 w2) = none from by rw [pairF2]; show (goP (ins.map f) w1 w2).map _ = none; rw [goP_bad hs hx hy hf]; rfl]; rfl, rfl⟩
  ·
   refine zW0 [15, 16] [_, S ++ [.cells (encS (.mk k ins)).cells, .cells (encV (.mk n1 m1 s1 c1 w1)).cells, .cells (encV (.mk n2 m2 s2 c2 w2)).cells, .cells [.int .u64 0, .int .u64 0, .lst0, .lst0, .lst0], .cells [.int .u64 0, .int .u64 0, .lst0, .lst0, .lst (some (S.length + 5)) 5 ((encVs acc))], .row 27 5 acc.length, .cells (encS (.mk k1 i1)).cells, .cells [.int .u64 0, .int .u64 0, .lst0, .lst0, .lst0]], S ++ [.cells (encS (.mk k ins)).cells, .cells (encV (.mk n1 m1 s1 c1 w1)).cells, .cells (encV (.mk n2 m2 s2 c2 w2)).cells, .cells [.int .u64 0, .int .u64 0, .lst0, .lst0, .lst0], .cells [.int .u64 0, .int .u64 0, .lst0, .lst0, .lst (some (S.length + 5)) 5 ((encVs acc))], .row 27 5 acc.length, .cells (encS (.mk k1 i1)).cells, .cells (encV (.mk n3 m3 s3 c3 w3)).cells]] mo (by decide) V V V V ?_
   refine zN V V (.cons (zN0 V V V ta53 V Vv) (.cons (zN0 V V V ta53 V Vv) (.nil))) <| zN V V (.cons (zG V V zG2 Vv) (.cons (zG V V zG2 Vv) (.nil))) <| zN V V (.cons (zN0 V V V ta25 V Vv) (.cons (zN0 V V V ta25 V Vv) (.nil))) <| zN V V (.cons (zY V V Vv) (.cons (zY V V Vv) (.nil))) <| zN V V (.cons (zI V zG0 sz27 (by decide) V V V (zC4 hx) Vv) (.cons (zI V zG0 sz27 (by decide) V V V (zC4 hx) Vv) (.nil))) ?_
   refine zN V V (.cons (zL V V ta27 V Vv) (.cons (zL V V ta27 V Vv) (.nil))) <| zN V V (.cons (zG V V zG2 Vv) (.cons (zG V V zG2 Vv) (.nil))) <| zN V V (.cons (zN0 V V V ta25 V Vv) (.cons (zN0 V V V ta25 V Vv) (.nil))) <| zN V V (.cons (zY V V Vv) (.cons (zY V V Vv) (.nil))) <| zN V V (.cons (zI V zG0 sz27 (by decide) V V V (zC4 hy) Vv) (.cons (zI V zG0 sz27 (by decide) V V V (zC4 hy) Vv) (.nil))) ?_
   refine zN V V (.cons (zL V V ta27 V Vv) (.cons (zL V V ta27 V Vv) (.nil))) <| zN V V (.cons (zT0 V V V co188 (hof _)) (.cons (zT0 V V V co188 (hof _)) (.nil))) <| zN V V (.cons (zY V V Vv) (.cons (zY V V Vv) (.nil))) <| zN V V (.cons (zS V V V Vv) (.cons (zS V V V Vv) (.nil))) <| zN V V (.cons (zS V V V Vv) (.cons (zS V V V Vv) (.cons (zS V V V Vv) (.nil)))) <| zV0 V V V V (zM0 V zm27 V V Vv) <| zV0 V V V V (zZ V V V V sz27 V V (zA V) V Vv) <| dO V V V (zZ0 V V Vv) <| zQ0 <| zB <| zB <| qR V <| qM V V V <| qO V <| zV3 V zA0 V V (.inr Vv) <| qN <| zK V (V) <| zX <| qR V <| qF V V V zG2 <| qL V V V V ta25 V <| qL V V V V ta27 V <| qO V <| zL1 V zG0 el27 V V (by decide) (by decide) V V ?_
   refine qO V <| zK3 V zG0 el27 V V V (by simp [zX0]) (by simp [zX0]; omega) (by simp [zX0]; omega) V ?_
   refine qF V V V zG2 <| qO V <| zZ V V V V sz25 V V (zA V) V <| qN <| qR V <| qO V <| zH1 V V V V <| qM V V V <| qN ?_
   refine ⟨⟨i + 1, acc ++ [.mk n3 m3 s3 c3 w3]⟩, _, by dsimp only; omega, ⟨by dsimp only; omega, goP_snoc he hs hx hy hf⟩, by simp only [encVs_append, zE]; rfl, .same (.same (.same (.same (.new (cl_outV (by simp)) (.new trivial .nil))))), (.old V V (.old V V (.old V V (.old V V (.old V V (.old V V (.nil))))))), (.new' V (zH2 hlt hlen) (.int _ _) (.nil))⟩
 ·
  rw [zA3] at h17
  have hge : i = ins.length := by simp at h17; omega
  refine zV1 <| zB <| qR V <| qL V V V V ta27 V <| qO V <| zZ V V V V sz27 V V (zA V) V <| qA V V V <| qN <| zH ?_
  exact zJ1 (.inr V) Tryz.results230 V V ta27 V (.agg (.cons (.refl _) (.cons (.refl _) (.cons (.nil 1) (.cons (.nil 1) (.cons (.view _ _ _) .nil)))))) (zO1 _ (.mk 0 0 [] [] acc)) V (.refl _) (.iface0) ⟨by rw [show pairF2 (ins.map f) (.mk n1 m1 s1 c1 w1) (.mk n2 m2 s2 c2 w2) = some _ from by rw [pairF2]; show (goP (ins.map f) w1 w2).map _ = _; rw [hge, List.take_length] at he; rw [he]; rfl]; rfl, rfl⟩
theorem max_if (a b : Int) : (if b > a then b else a) = max a b := by split <;> omega
theorem isV3 {ins : List Sch} {n m : Int} {s : List Bs} {c : List (List Tk)} {w : List Val} (h : isVF (.mk 3 ins) (.mk n m s c w) = true) : s.length ≤ 40 := by
 rw [zY1 3] at h; simp [isRowF] at h; omega
theorem isV4 {t : Sch} {n m : Int} {s : List Bs} {c : List (List Tk)} {w : List Val} (h : isVF (.mk 4 [t]) (.mk n m s c w) = true) : s.length ≤ 40 ∧ s.length = w.length ∧ ∀ x ∈ w, isVF t x = true := by
 rw [zY1 4] at h
 simp only [Int.reduceEq, if_false, if_true, isVL, List.headD_cons, Bool.and_eq_true, decide_eq_true_eq, List.all_eq_true, isRowF] at h
 exact ⟨h.2.1.1.1.1, h.2.1.2, fun x hx => (h.2.2 x hx).1⟩
theorem isV5 {t u : Sch} {n m : Int} {s : List Bs} {c : List (List Tk)} {w : List Val} (h : isVF (.mk 5 [t, u]) (.mk n m s c w) = true) : ∃ x y, w = [x, y] ∧ isVF t x = true ∧ isVF u y = true := by
 rw [zY1 5] at h
 match w, h with
 | [], h => simp at h
 | [_], h => simp at h
 | [x, y], h => exact ⟨x, y, rfl, by simp [isVL] at h; exact h.2⟩
 | _ :: _ :: _ :: _, h => simp at h
theorem isV7 {ins : List Sch} {n m : Int} {s : List Bs} {c : List (List Tk)} {w : List Val} (h : isVF (.mk 7 ins) (.mk n m s c w) = true) : ∀ x ∈ c, x.length ≤ 40 := by
 rw [zY1 7] at h
 match c, h with
 | [], _ => simp
 | [x], h => simp [isClockF] at h; simp; omega
 | _ :: _ :: _, h => simp at h
theorem isV8 {t : Sch} {n m : Int} {s : List Bs} {c : List (List Tk)} {w : List Val} (h : isVF (.mk 8 [t]) (.mk n m s c w) = true) : c.length ≤ 40 ∧ c.length = w.length ∧ (∀ x ∈ c, x.length ≤ 40) ∧ ∀ x ∈ w, isVF t x = true := by
 rw [zY1 8] at h
 simp only [Int.reduceEq, if_false, isVL, List.headD_cons, Bool.and_eq_true, decide_eq_true_eq, List.all_eq_true, isCauseF, isClockF] at h
 refine ⟨h.1.2, h.2.1.1, fun x hx => ?_, fun x hx => h.2.2 x hx⟩
 have := h.2.1.2.1 x hx
 omega
theorem _root_.zQ3 : type_of% @Tryz.ntmps188 := @Tryz.ntmps188
theorem _root_.zD1 : type_of% @Tryz.underlying49 := @Tryz.underlying49
theorem _root_.zX1 : type_of% @Tryz.results188 := @Tryz.results188
theorem both_spec (d : Nat) : ∀ (t : Sch), isF d t = true → ∀ (a b : Val), isVF t a = true → isVF t b = true → ∀ S : MS, MCalls Tryz.prog 188 [encS t, encV a, encV b] S fun v σ' => v = encO (bothF t a b) ∧ σ' = S := by
 induction d with
 | zero => intro s h; simp [isF] at h
 | succ d ih =>
 rintro ⟨k, ins⟩ hd ⟨n1, m1, s1, c1, w1⟩ ⟨n2, m2, s2, c2, w2⟩ ha hb S
 rw [isF] at hd
 simp only [Bool.and_eq_true, List.all_eq_true, beq_iff_eq] at hd
 rcases k8_of hd.1 with rfl | rfl | rfl | rfl | rfl | rfl | rfl | rfl
 ·
  have hB : bothB 1 (bothL ins) (.mk n1 m1 s1 c1 w1) (.mk n2 m2 s2 c2 w2) = some (.mk (max n1 n2) 0 [] [] []) := rfl
  refine zR zP3 V zQ3 (zA V) ?_
  refine zB <| qR V <| qB V V V V V <| qB V V V V V <| qB V V V V V <| qO V <| zM0 V zm27 V V <| qA V V V <| qN <| zB <| zB <| qR V <| qF V V V zB2 <| qL V V V V ta3 V <| qN <| zB0 <| zB <| zB <| qR V <| qC V V V V V <| qA V V V <| qN ?_
  refine zU V (V) <| zX <| zU V (V) <| qR V <| qF V V V zX3 <| qL V V V V ta22 V <| qF V V V zX3 <| qL V V V V ta22 V <| qO V <| op_max2' V V V (max_if n1 n2) <| qF V V V zX3 <| qO V <| zZ V V V V sz22 V V (zA V) V <| qN <| zB <| zB <| qR V <| qM V V V <| qO V <| zV3 V zA0 V V (.inl Vv) <| qM V V V <| qO V <| zH3 (y := encV (.mk (max n1 n2) 0 [] [] [])) (zN0 V V V ta27 V Vv) (.agg (.cons (.refl _) (.cons (.refl _) (.cons (.nil 1) (.cons (.nil 1) (.cons (.nil 5) .nil)))))) ?_
  refine qX V V V V co234 (zR4 (max n1 n2) 0 [] [] [] _) ?_
  refine qP V V V V <| qN ?_
  refine zM V (fun h69 => ?_) (fun h69 => ?_)
  ·
   refine qR V <| qO V <| zK1 V V zD1 (by simp) ?_
   refine qA V V V <| qN <| zB <| zB <| qR V <| qM V V V <| qO V <| zS2 V zA0 V V (.inr Vv) <| qN <| zU V (V) <| zB <| qR V <| qO V <| zR1 V zN1 zm27 .nil (by kernel_rfl) ?_
   refine qM V V V <| qO V <| zZ V V V V sz27 V V (zA V) V <| qA V V V <| qN <| zH ?_
   exact zJ1 (.inr V) zX1 V V ta27 V (.agg (.cons (.refl _) (.cons (.refl _) (.cons (.nil 1) (.cons (.nil 1) (.cons (.nil 5) .nil)))))) (zO1 _ (noV)) V (.refl _) (.iface _ _ (.int _ _)) ⟨by rw [zM3, hB, cap_t h69]; rfl, rfl⟩
  ·
   refine zX <| zB <| zB <| qR V <| qM V V V <| qO V <| zV3 V zA0 V V (.inr Vv) <| qN <| zK V (V) <| zX <| zB <| qR V <| qO V <| zH3 (y := encV (.mk (max n1 n2) 0 [] [] [])) (zN0 V V V ta27 V Vv) (.agg (.cons (.refl _) (.cons (.refl _) (.cons (.nil 1) (.cons (.nil 1) (.cons (.nil 5) .nil)))))) <| qO V <| zZ V V V V sz27 V V (zA V) V <| qA V V V <| qN <| zH ?_
   exact zJ1 (.inr V) zX1 V V ta27 V (.refl _) (zO1 _ (.mk (max n1 n2) 0 [] [] [])) V (.refl _) (.iface0) ⟨by rw [zM3, hB, cap_f h69]; rfl, rfl⟩
 ·
  have hB : bothB 2 (bothL ins) (.mk n1 m1 s1 c1 w1) (.mk n2 m2 s2 c2 w2) = some (.mk (max n1 n2) 0 [] [] []) := rfl
  refine zR zP3 V zQ3 (zA V) ?_
  refine zB <| qR V <| qB V V V V V <| qB V V V V V <| qB V V V V V <| qO V <| zM0 V zm27 V V <| qA V V V <| qN <| zB <| zB <| qR V <| qF V V V zB2 <| qL V V V V ta3 V <| qN <| zB0 <| zB <| zB <| qR V <| qC V V V V V <| qA V V V <| qN ?_
  refine zK V (V) <| qR V <| qC V V V V V <| qA V V V <| qN <| zU V (V) <| qR V <| qF V V V zX3 <| qL V V V V ta22 V <| qF V V V zX3 <| qL V V V V ta22 V <| qO V <| op_max2' V V V (max_if n1 n2) <| qF V V V zX3 <| qO V <| zZ V V V V sz22 V V (zA V) V <| qN <| zB <| zB <| qR V <| qM V V V <| qO V <| zV3 V zA0 V V (.inl Vv) ?_
  refine qM V V V <| qO V <| zH3 (y := encV (.mk (max n1 n2) 0 [] [] [])) (zN0 V V V ta27 V Vv) (.agg (.cons (.refl _) (.cons (.refl _) (.cons (.nil 1) (.cons (.nil 1) (.cons (.nil 5) .nil)))))) ?_
  refine qX V V V V co234 (zR4 (max n1 n2) 0 [] [] [] _) ?_
  refine qP V V V V <| qN ?_
  refine zM V (fun h69 => ?_) (fun h69 => ?_)
  ·
   refine qR V <| qO V <| zK1 V V zD1 (by simp) ?_
   refine qA V V V <| qN <| zB <| zB <| qR V <| qM V V V <| qO V <| zS2 V zA0 V V (.inr Vv) <| qN <| zU V (V) <| zB <| qR V <| qO V <| zR1 V zN1 zm27 .nil (by kernel_rfl) ?_
   refine qM V V V <| qO V <| zZ V V V V sz27 V V (zA V) V <| qA V V V <| qN <| zH ?_
   exact zJ1 (.inr V) zX1 V V ta27 V (.agg (.cons (.refl _) (.cons (.refl _) (.cons (.nil 1) (.cons (.nil 1) (.cons (.nil 5) .nil)))))) (zO1 _ (noV)) V (.refl _) (.iface _ _ (.int _ _)) ⟨by rw [zM3, hB, cap_t h69]; rfl, rfl⟩
  ·
   refine zX <| zB <| zB <| qR V <| qM V V V <| qO V <| zV3 V zA0 V V (.inr Vv) <| qN <| zK V (V) <| zX <| zB <| qR V <| qO V <| zH3 (y := encV (.mk (max n1 n2) 0 [] [] [])) (zN0 V V V ta27 V Vv) (.agg (.cons (.refl _) (.cons (.refl _) (.cons (.nil 1) (.cons (.nil 1) (.cons (.nil 5) .nil)))))) <| qO V <| zZ V V V V sz27 V V (zA V) V <| qA V V V <| qN <| zH ?_
   exact zJ1 (.inr V) zX1 V V ta27 V (.refl _) (zO1 _ (.mk (max n1 n2) 0 [] [] [])) V (.refl _) (.iface0) ⟨by rw [zM3, hB, cap_f h69]; rfl, rfl⟩
 ·
  have b1 := isV3 ha
  have b2 := isV3 hb
  have hB : bothB 3 (bothL ins) (.mk n1 m1 s1 c1 w1) (.mk n2 m2 s2 c2 w2) = some (.mk 0 0 (bothX s1 s2) [] []) := rfl
  refine zR zP3 V zQ3 (zA V) ?_
  refine zB <| qR V <| qB V V V V V <| qB V V V V V <| qB V V V V V <| qO V <| zM0 V zm27 V V <| qA V V V <| qN <| zB <| zB <| qR V <| qF V V V zB2 <| qL V V V V ta3 V <| qN <| zB0 <| zB <| zB <| qR V <| qC V V V V V <| qA V V V <| qN ?_
  refine zK V (V) <| qR V <| qC V V V V V <| qA V V V <| qN <| zK V (V) <| zB <| qR V <| qC V V V V V <| qA V V V <| qN <| zU V (V) <| qR V <| qF V V V zZ2 <| qL V V V V ta23 V <| qF V V V zZ2 <| qL V V V V ta23 V ?_
  refine qX V V V V co228 (rowsBoth_spec s1 s2 (by omega) _) ?_
  refine qF V V V zZ2 <| qO V <| zZ V V V V sz23 V V (zA V) V <| qN <| zB <| zB <| qR V <| qM V V V <| qO V <| zV3 V zA0 V V (.inl Vv) <| qM V V V <| qO V <| zH3 (y := encV (.mk 0 0 (bothX s1 s2) [] [])) (zN0 V V V ta27 V Vv) (.agg (.cons (.refl _) (.cons (.refl _) (.cons (.refl _) (.cons (.nil 1) (.cons (.nil 5) .nil)))))) ?_
  refine qX V V V V co234 (zR4 0 0 (bothX s1 s2) [] [] _) ?_
  refine qP V V V V <| qN ?_
  refine zM V (fun h69 => ?_) (fun h69 => ?_)
  ·
   refine qR V <| qO V <| zK1 V V zD1 (by simp) ?_
   refine qA V V V <| qN <| zB <| zB <| qR V <| qM V V V <| qO V <| zS2 V zA0 V V (.inr Vv) <| qN <| zU V (V) <| zB <| qR V <| qO V <| zR1 V zN1 zm27 .nil (by kernel_rfl) ?_
   refine qM V V V <| qO V <| zZ V V V V sz27 V V (zA V) V <| qA V V V <| qN <| zH ?_
   exact zJ1 (.inr V) zX1 V V ta27 V (.agg (.cons (.refl _) (.cons (.refl _) (.cons (.nil 1) (.cons (.nil 1) (.cons (.nil 5) .nil)))))) (zO1 _ (noV)) V (.refl _) (.iface _ _ (.int _ _)) ⟨by rw [zM3, hB, cap_t h69]; rfl, rfl⟩
  ·
   refine zX <| zB <| zB <| qR V <| qM V V V <| qO V <| zV3 V zA0 V V (.inr Vv) <| qN <| zK V (V) <| zX <| zB <| qR V <| qO V <| zH3 (y := encV (.mk 0 0 (bothX s1 s2) [] [])) (zN0 V V V ta27 V Vv) (.agg (.cons (.refl _) (.cons (.refl _) (.cons (.refl _) (.cons (.nil 1) (.cons (.nil 5) .nil)))))) <| qO V <| zZ V V V V sz27 V V (zA V) V <| qA V V V <| qN <| zH ?_
   exact zJ1 (.inr V) zX1 V V ta27 V (.refl _) (zO1 _ (.mk 0 0 (bothX s1 s2) [] [])) V (.refl _) (.iface0) ⟨by rw [zM3, hB, cap_f h69]; rfl, rfl⟩
 ·
  obtain ⟨⟨k1, i1⟩, rfl⟩ := one_ins hd.1 (by decide)
  have ih1 := ih (.mk k1 i1) (hd.2 _ (by simp))
  obtain ⟨p1, p2, p3⟩ := isV4 ha
  obtain ⟨q1, q2, q3⟩ := isV4 hb
  have hof := maps_spec 4 k1 i1 [] (bothF (.mk k1 i1)) n1 m1 s1 c1 w1 n2 m2 s2 c2 w2 p2 q2 p1 q1 (fun x hx y hy => ih1 x y (p3 x hx) (q3 y hy))
  have hBq : bothB 4 (bothL [.mk k1 i1]) (.mk n1 m1 s1 c1 w1) (.mk n2 m2 s2 c2 w2) = mapsF (bothF (.mk k1 i1)) (.mk n1 m1 s1 c1 w1) (.mk n2 m2 s2 c2 w2) := rfl
  rcases hO : mapsF (bothF (.mk k1 i1)) (.mk n1 m1 s1 c1 w1) (.mk n2 m2 s2 c2 w2) with _ | ⟨⟨n3, m3, s3, c3, w3⟩⟩ <;> rw [hO] at hof hBq
  ·
   refine zR zP3 V zQ3 (zA V) ?_
   refine zB <| qR V <| qB V V V V V <| qB V V V V V <| qB V V V V V <| qO V <| zM0 V zm27 V V <| qA V V V <| qN <| zB <| zB <| qR V <| qF V V V zB2 <| qL V V V V ta3 V <| qN <| zB0 <| zB <| zB <| qR V <| qC V V V V V <| qA V V V <| qN ?_
   refine zK V (V) <| qR V <| qC V V V V V <| qA V V V <| qN <| zK V (V) <| zB <| qR V <| qC V V V V V <| qA V V V <| qN <| zK V (V) <| zB <| qR V <| qC V V V V V <| qA V V V <| qN <| zU V (V) <| qR V <| qL V V V V ta53 V <| qL V V V V ta27 V <| qL V V V V ta27 V ?_
   refine qX V V V V co229 (hof _) ?_
   refine qM V V V <| qO V <| zS V V V <| qO V <| zS V V V <| qO V <| zZ V V V V sz27 V V (zA V) V <| qA V V V <| qN <| zB <| zB <| qR V <| qM V V V <| qO V <| zS2 V zA0 V V (.inl Vv) <| qM V V V <| qS V <| qS V <| qP V V V V <| qN <| zK V (V) <| zX <| zB <| zB <| qR V ?_
   refine qM V V V <| qO V <| zS2 V zA0 V V (.inr Vv) <| qN <| zU V (V) <| zB <| qR V <| qO V <| zR1 V zN1 zm27 .nil (by kernel_rfl) ?_
   refine qM V V V <| qO V <| zZ V V V V sz27 V V (zA V) V <| qA V V V <| qN <| zH ?_
   exact zJ1 (.inr V) zX1 V V ta27 V (.agg (.cons (.refl _) (.cons (.refl _) (.cons (.nil 1) (.cons (.nil 1) (.cons (.nil 5) .nil)))))) (zO1 _ (noV)) V (.refl _) (.iface _ _ (.int _ _)) ⟨by rw [zM3, hBq]; rfl, rfl⟩
  ·
   refine zR zP3 V zQ3 (zA V) ?_
   refine zB <| qR V <| qB V V V V V <| qB V V V V V <| qB V V V V V <| qO V <| zM0 V zm27 V V <| qA V V V <| qN <| zB <| zB <| qR V <| qF V V V zB2 <| qL V V V V ta3 V <| qN <| zB0 <| zB <| zB <| qR V <| qC V V V V V <| qA V V V <| qN ?_
   refine zK V (V) <| qR V <| qC V V V V V <| qA V V V <| qN <| zK V (V) <| zB <| qR V <| qC V V V V V <| qA V V V <| qN <| zK V (V) <| zB <| qR V <| qC V V V V V <| qA V V V <| qN <| zU V (V) <| qR V <| qL V V V V ta53 V <| qL V V V V ta27 V <| qL V V V V ta27 V ?_
   refine qX V V V V co229 (hof _) ?_
   refine qM V V V <| qO V <| zS V V V <| qO V <| zS V V V <| qO V <| zZ V V V V sz27 V V (zA V) V <| qA V V V <| qN <| zB <| zB <| qR V <| qM V V V <| qO V <| zV3 V zA0 V V (.inl Vv) <| qM V V V <| qL V V V V ta27 V ?_
   refine qX V V V V co234 (zR4 n3 m3 s3 c3 w3 _) ?_
   refine qP V V V V <| qN ?_
   refine zM V (fun h69 => ?_) (fun h69 => ?_)
   ·
    refine qR V <| qO V <| zK1 V V zD1 (by simp) ?_
    refine qA V V V <| qN <| zB <| zB <| qR V <| qM V V V <| qO V <| zS2 V zA0 V V (.inr Vv) <| qN <| zU V (V) <| zB <| qR V <| qO V <| zR1 V zN1 zm27 .nil (by kernel_rfl) ?_
    refine qM V V V <| qO V <| zZ V V V V sz27 V V (zA V) V <| qA V V V <| qN <| zH ?_
    exact zJ1 (.inr V) zX1 V V ta27 V (.agg (.cons (.refl _) (.cons (.refl _) (.cons (.nil 1) (.cons (.nil 1) (.cons (.nil 5) .nil)))))) (zO1 _ (noV)) V (.refl _) (.iface _ _ (.int _ _)) ⟨by rw [zM3, hBq, cap_t h69]; rfl, rfl⟩
   ·
    refine zX <| zB <| zB <| qR V <| qM V V V <| qO V <| zV3 V zA0 V V (.inr Vv) <| qN <| zK V (V) <| zX <| zB <| qR V <| qL V V V V ta27 V <| qO V <| zZ V V V V sz27 V V (zA V) V <| qA V V V <| qN <| zH ?_
    exact zJ1 (.inr V) zX1 V V ta27 V (.refl _) (zO1 _ (.mk n3 m3 s3 c3 w3)) V (.refl _) (.iface0) ⟨by rw [zM3, hBq, cap_f h69]; rfl, rfl⟩
 ·
  obtain ⟨⟨k1, i1⟩, ⟨k2, i2⟩, rfl⟩ := two_of hd.1
  have ih1 := ih (.mk k1 i1) (hd.2 _ (by simp))
  have ih2 := ih (.mk k2 i2) (hd.2 _ (by simp))
  obtain ⟨x1, y1, rfl, p1, p2⟩ := isV5 ha
  obtain ⟨x2, y2, rfl, q1, q2⟩ := isV5 hb
  have hof := pairs_specJ 5 [.mk k1 i1, .mk k2 i2] (by simp) bothF n1 m1 s1 c1 [x1, y1] n2 m2 s2 c2 [x2, y2] rfl rfl (fun i s x y hs hx hy => by
   match i, hs, hx, hy with
   | 0, hs, hx, hy => simp at hs hx hy; subst hs hx hy; exact ih1 _ _ p1 q1
   | 1, hs, hx, hy => simp at hs hx hy; subst hs hx hy; exact ih2 _ _ p2 q2
   | i + 2, hs, _, _ => simp at hs)
  have hBq : bothB 5 (bothL [.mk k1 i1, .mk k2 i2]) (.mk n1 m1 s1 c1 [x1, y1]) (.mk n2 m2 s2 c2 [x2, y2]) = pairF2 ([.mk k1 i1, .mk k2 i2].map bothF) (.mk n1 m1 s1 c1 [x1, y1]) (.mk n2 m2 s2 c2 [x2, y2]) := by rw [bothL_eq]; rfl
  rcases hO : pairF2 ([.mk k1 i1, .mk k2 i2].map bothF) (.mk n1 m1 s1 c1 [x1, y1]) (.mk n2 m2 s2 c2 [x2, y2]) with _ | ⟨⟨n3, m3, s3, c3, w3⟩⟩ <;> rw [hO] at hof hBq
  ·
   refine zR zP3 V zQ3 (zA V) ?_
   refine zB <| qR V <| qB V V V V V <| qB V V V V V <| qB V V V V V <| qO V <| zM0 V zm27 V V <| qA V V V <| qN <| zB <| zB <| qR V <| qF V V V zB2 <| qL V V V V ta3 V <| qN <| zB0 <| zB <| zB <| qR V <| qC V V V V V <| qA V V V <| qN ?_
   refine zK V (V) <| qR V <| qC V V V V V <| qA V V V <| qN <| zK V (V) <| zB <| qR V <| qC V V V V V <| qA V V V <| qN <| zK V (V) <| zB <| qR V <| qC V V V V V <| qA V V V <| qN <| zK V (V) <| zB <| qR V <| qC V V V V V <| qA V V V ?_
   refine qN <| zU V (V) <| qR V <| qL V V V V ta53 V <| qL V V V V ta27 V <| qL V V V V ta27 V ?_
   refine qX V V V V co230 (hof _) ?_
   refine qM V V V <| qO V <| zS V V V <| qO V <| zS V V V <| qO V <| zZ V V V V sz27 V V (zA V) V <| qA V V V <| qN <| zB <| zB <| qR V <| qM V V V <| qO V <| zS2 V zA0 V V (.inl Vv) <| qM V V V <| qS V <| qS V <| qP V V V V <| qN <| zK V (V) <| zX <| zB <| zB <| qR V ?_
   refine qM V V V <| qO V <| zS2 V zA0 V V (.inr Vv) <| qN <| zU V (V) <| zB <| qR V <| qO V <| zR1 V zN1 zm27 .nil (by kernel_rfl) ?_
   refine qM V V V <| qO V <| zZ V V V V sz27 V V (zA V) V <| qA V V V <| qN <| zH ?_
   exact zJ1 (.inr V) zX1 V V ta27 V (.agg (.cons (.refl _) (.cons (.refl _) (.cons (.nil 1) (.cons (.nil 1) (.cons (.nil 5) .nil)))))) (zO1 _ (noV)) V (.refl _) (.iface _ _ (.int _ _)) ⟨by rw [zM3, hBq]; rfl, rfl⟩
  ·
   refine zR zP3 V zQ3 (zA V) ?_
   refine zB <| qR V <| qB V V V V V <| qB V V V V V <| qB V V V V V <| qO V <| zM0 V zm27 V V <| qA V V V <| qN <| zB <| zB <| qR V <| qF V V V zB2 <| qL V V V V ta3 V <| qN <| zB0 <| zB <| zB <| qR V <| qC V V V V V <| qA V V V <| qN ?_
   refine zK V (V) <| qR V <| qC V V V V V <| qA V V V <| qN <| zK V (V) <| zB <| qR V <| qC V V V V V <| qA V V V <| qN <| zK V (V) <| zB <| qR V <| qC V V V V V <| qA V V V <| qN <| zK V (V) <| zB <| qR V <| qC V V V V V <| qA V V V ?_
   refine qN <| zU V (V) <| qR V <| qL V V V V ta53 V <| qL V V V V ta27 V <| qL V V V V ta27 V ?_
   refine qX V V V V co230 (hof _) ?_
   refine qM V V V <| qO V <| zS V V V <| qO V <| zS V V V <| qO V <| zZ V V V V sz27 V V (zA V) V <| qA V V V <| qN <| zB <| zB <| qR V <| qM V V V <| qO V <| zV3 V zA0 V V (.inl Vv) <| qM V V V <| qL V V V V ta27 V ?_
   refine qX V V V V co234 (zR4 n3 m3 s3 c3 w3 _) ?_
   refine qP V V V V <| qN ?_
   refine zM V (fun h69 => ?_) (fun h69 => ?_)
   ·
    refine qR V <| qO V <| zK1 V V zD1 (by simp) ?_
    refine qA V V V <| qN <| zB <| zB <| qR V <| qM V V V <| qO V <| zS2 V zA0 V V (.inr Vv) <| qN <| zU V (V) <| zB <| qR V <| qO V <| zR1 V zN1 zm27 .nil (by kernel_rfl) ?_
    refine qM V V V <| qO V <| zZ V V V V sz27 V V (zA V) V <| qA V V V <| qN <| zH ?_
    exact zJ1 (.inr V) zX1 V V ta27 V (.agg (.cons (.refl _) (.cons (.refl _) (.cons (.nil 1) (.cons (.nil 1) (.cons (.nil 5) .nil)))))) (zO1 _ (noV)) V (.refl _) (.iface _ _ (.int _ _)) ⟨by rw [zM3, hBq, cap_t h69]; rfl, rfl⟩
   ·
    refine zX <| zB <| zB <| qR V <| qM V V V <| qO V <| zV3 V zA0 V V (.inr Vv) <| qN <| zK V (V) <| zX <| zB <| qR V <| qL V V V V ta27 V <| qO V <| zZ V V V V sz27 V V (zA V) V <| qA V V V <| qN <| zH ?_
    exact zJ1 (.inr V) zX1 V V ta27 V (.refl _) (zO1 _ (.mk n3 m3 s3 c3 w3)) V (.refl _) (.iface0) ⟨by rw [zM3, hBq, cap_f h69]; rfl, rfl⟩
 ·
  obtain ⟨n3, m3, s3, c3, w3, hlt⟩ : ∃ n m s c w, laterF (.mk n1 m1 s1 c1 w1) (.mk n2 m2 s2 c2 w2) = .mk n m s c w := by cases laterF (.mk n1 m1 s1 c1 w1) (.mk n2 m2 s2 c2 w2) with
   | mk n m s c w => exact ⟨n, m, s, c, w, rfl⟩
  have hlt2 := later_spec n1 m1 s1 c1 w1 n2 m2 s2 c2 w2
  rw [hlt] at hlt2
  have hB : bothB 6 (bothL ins) (.mk n1 m1 s1 c1 w1) (.mk n2 m2 s2 c2 w2) = some (.mk n3 m3 s3 c3 w3) := congrArg some hlt
  refine zR zP3 V zQ3 (zA V) ?_
  refine zB <| qR V <| qB V V V V V <| qB V V V V V <| qB V V V V V <| qO V <| zM0 V zm27 V V <| qA V V V <| qN <| zB <| zB <| qR V <| qF V V V zB2 <| qL V V V V ta3 V <| qN <| zB0 <| zB <| zB <| qR V <| qC V V V V V <| qA V V V <| qN ?_
  refine zK V (V) <| qR V <| qC V V V V V <| qA V V V <| qN <| zK V (V) <| zB <| qR V <| qC V V V V V <| qA V V V <| qN <| zK V (V) <| zB <| qR V <| qC V V V V V <| qA V V V <| qN <| zK V (V) <| zB <| qR V <| qC V V V V V <| qA V V V ?_
  refine qN <| zK V (V) <| zB <| qR V <| qC V V V V V <| qA V V V <| qN <| zU V (V) <| qR V <| qL V V V V ta27 V <| qL V V V V ta27 V ?_
  refine qX V V V V co231 (hlt2 _) ?_
  refine qO V <| zZ V V V V sz27 V V (zA V) V <| qN <| zB <| zB <| qR V <| qM V V V <| qO V <| zV3 V zA0 V V (.inl Vv) <| qM V V V <| qL V V V V ta27 V ?_
  refine qX V V V V co234 (zR4 n3 m3 s3 c3 w3 _) ?_
  refine qP V V V V <| qN ?_
  refine zM V (fun h69 => ?_) (fun h69 => ?_)
  ·
   refine qR V <| qO V <| zK1 V V zD1 (by simp) ?_
   refine qA V V V <| qN <| zB <| zB <| qR V <| qM V V V <| qO V <| zS2 V zA0 V V (.inr Vv) <| qN <| zU V (V) <| zB <| qR V <| qO V <| zR1 V zN1 zm27 .nil (by kernel_rfl) ?_
   refine qM V V V <| qO V <| zZ V V V V sz27 V V (zA V) V <| qA V V V <| qN <| zH ?_
   exact zJ1 (.inr V) zX1 V V ta27 V (.agg (.cons (.refl _) (.cons (.refl _) (.cons (.nil 1) (.cons (.nil 1) (.cons (.nil 5) .nil)))))) (zO1 _ (noV)) V (.refl _) (.iface _ _ (.int _ _)) ⟨by rw [zM3, hB, cap_t h69]; rfl, rfl⟩
  ·
   refine zX <| zB <| zB <| qR V <| qM V V V <| qO V <| zV3 V zA0 V V (.inr Vv) <| qN <| zK V (V) <| zX <| zB <| qR V <| qL V V V V ta27 V <| qO V <| zZ V V V V sz27 V V (zA V) V <| qA V V V <| qN <| zH ?_
   exact zJ1 (.inr V) zX1 V V ta27 V (.refl _) (zO1 _ (.mk n3 m3 s3 c3 w3)) V (.refl _) (.iface0) ⟨by rw [zM3, hB, cap_f h69]; rfl, rfl⟩
 ·
  have b1 := isV7 ha
  have b2 := isV7 hb
  obtain ⟨n3, m3, s3, c3, w3, hlt⟩ : ∃ n m s c w, clocksF (.mk n1 m1 s1 c1 w1) (.mk n2 m2 s2 c2 w2) = .mk n m s c w := by cases clocksF (.mk n1 m1 s1 c1 w1) (.mk n2 m2 s2 c2 w2) with
   | mk n m s c w => exact ⟨n, m, s, c, w, rfl⟩
  have hlt2 := clocks_spec n1 m1 s1 c1 w1 n2 m2 s2 c2 w2 (fun x hx y hy => by have := b1 x hx; have := b2 y hy; omega)
  rw [hlt] at hlt2
  have hB : bothB 7 (bothL ins) (.mk n1 m1 s1 c1 w1) (.mk n2 m2 s2 c2 w2) = some (.mk n3 m3 s3 c3 w3) := congrArg some hlt
  refine zR zP3 V zQ3 (zA V) ?_
  refine zB <| qR V <| qB V V V V V <| qB V V V V V <| qB V V V V V <| qO V <| zM0 V zm27 V V <| qA V V V <| qN <| zB <| zB <| qR V <| qF V V V zB2 <| qL V V V V ta3 V <| qN <| zB0 <| zB <| zB <| qR V <| qC V V V V V <| qA V V V <| qN ?_
  refine zK V (V) <| qR V <| qC V V V V V <| qA V V V <| qN <| zK V (V) <| zB <| qR V <| qC V V V V V <| qA V V V <| qN <| zK V (V) <| zB <| qR V <| qC V V V V V <| qA V V V <| qN <| zK V (V) <| zB <| qR V <| qC V V V V V <| qA V V V ?_
  refine qN <| zK V (V) <| zB <| qR V <| qC V V V V V <| qA V V V <| qN <| zK V (V) <| zB <| qR V <| qC V V V V V <| qA V V V <| qN <| zU V (V) <| qR V <| qL V V V V ta27 V <| qL V V V V ta27 V ?_
  refine qX V V V V co232 (hlt2 _) ?_
  refine qO V <| zZ V V V V sz27 V V (zA V) V <| qN <| zB <| zB <| qR V <| qM V V V <| qO V <| zV3 V zA0 V V (.inl Vv) <| qM V V V <| qL V V V V ta27 V ?_
  refine qX V V V V co234 (zR4 n3 m3 s3 c3 w3 _) ?_
  refine qP V V V V <| qN ?_
  refine zM V (fun h69 => ?_) (fun h69 => ?_)
  ·
   refine qR V <| qO V <| zK1 V V zD1 (by simp) ?_
   refine qA V V V <| qN <| zB <| zB <| qR V <| qM V V V <| qO V <| zS2 V zA0 V V (.inr Vv) <| qN <| zU V (V) <| zB <| qR V <| qO V <| zR1 V zN1 zm27 .nil (by kernel_rfl) ?_
   refine qM V V V <| qO V <| zZ V V V V sz27 V V (zA V) V <| qA V V V <| qN <| zH ?_
   exact zJ1 (.inr V) zX1 V V ta27 V (.agg (.cons (.refl _) (.cons (.refl _) (.cons (.nil 1) (.cons (.nil 1) (.cons (.nil 5) .nil)))))) (zO1 _ (noV)) V (.refl _) (.iface _ _ (.int _ _)) ⟨by rw [zM3, hB, cap_t h69]; rfl, rfl⟩
  ·
   refine zX <| zB <| zB <| qR V <| qM V V V <| qO V <| zV3 V zA0 V V (.inr Vv) <| qN <| zK V (V) <| zX <| zB <| qR V <| qL V V V V ta27 V <| qO V <| zZ V V V V sz27 V V (zA V) V <| qA V V V <| qN <| zH ?_
   exact zJ1 (.inr V) zX1 V V ta27 V (.refl _) (zO1 _ (.mk n3 m3 s3 c3 w3)) V (.refl _) (.iface0) ⟨by rw [zM3, hB, cap_f h69]; rfl, rfl⟩
 ·
  obtain ⟨⟨k1, i1⟩, rfl⟩ := one_ins hd.1 (by decide)
  have ih1 := ih (.mk k1 i1) (hd.2 _ (by simp))
  obtain ⟨p1, p2, p4, p3⟩ := isV8 ha
  obtain ⟨q1, q2, q4, q3⟩ := isV8 hb
  have hof := causes_spec 8 k1 i1 [] (bothF (.mk k1 i1)) n1 m1 s1 c1 w1 n2 m2 s2 c2 w2 p2 q2 p1 q1 (fun x hx => by have := p4 x hx; omega) (fun x hx => by have := q4 x hx; omega) (fun x hx y hy => ih1 x y (p3 x hx) (q3 y hy))
  have hBq : bothB 8 (bothL [.mk k1 i1]) (.mk n1 m1 s1 c1 w1) (.mk n2 m2 s2 c2 w2) = causesF (bothF (.mk k1 i1)) (.mk n1 m1 s1 c1 w1) (.mk n2 m2 s2 c2 w2) := rfl
  rcases hO : causesF (bothF (.mk k1 i1)) (.mk n1 m1 s1 c1 w1) (.mk n2 m2 s2 c2 w2) with _ | ⟨⟨n3, m3, s3, c3, w3⟩⟩ <;> rw [hO] at hof hBq
  ·
   refine zR zP3 V zQ3 (zA V) ?_
   refine zB <| qR V <| qB V V V V V <| qB V V V V V <| qB V V V V V <| qO V <| zM0 V zm27 V V <| qA V V V <| qN <| zB <| zB <| qR V <| qF V V V zB2 <| qL V V V V ta3 V <| qN <| zB0 <| zB <| zB <| qR V <| qC V V V V V <| qA V V V <| qN ?_
   refine zK V (V) <| qR V <| qC V V V V V <| qA V V V <| qN <| zK V (V) <| zB <| qR V <| qC V V V V V <| qA V V V <| qN <| zK V (V) <| zB <| qR V <| qC V V V V V <| qA V V V <| qN <| zK V (V) <| zB <| qR V <| qC V V V V V <| qA V V V ?_
   refine qN <| zK V (V) <| zB <| qR V <| qC V V V V V <| qA V V V <| qN <| zK V (V) <| zB <| qR V <| qC V V V V V <| qA V V V <| qN <| zK V (V) <| zB <| qR V <| qC V V V V V <| qA V V V <| qN <| zU V (V) <| qR V <| qL V V V V ta53 V <| qL V V V V ta27 V ?_
   refine qL V V V V ta27 V ?_
   refine qX V V V V co233 (hof _) ?_
   refine qM V V V <| qO V <| zS V V V <| qO V <| zS V V V <| qO V <| zZ V V V V sz27 V V (zA V) V <| qA V V V <| qN <| zB <| zB <| qR V <| qM V V V <| qO V <| zS2 V zA0 V V (.inl Vv) <| qM V V V <| qS V <| qS V <| qP V V V V <| qN <| zK V (V) <| zX <| zB <| zB <| qR V ?_
   refine qM V V V <| qO V <| zS2 V zA0 V V (.inr Vv) <| qN <| zU V (V) <| zB <| qR V <| qO V <| zR1 V zN1 zm27 .nil (by kernel_rfl) ?_
   refine qM V V V <| qO V <| zZ V V V V sz27 V V (zA V) V <| qA V V V <| qN <| zH ?_
   exact zJ1 (.inr V) zX1 V V ta27 V (.agg (.cons (.refl _) (.cons (.refl _) (.cons (.nil 1) (.cons (.nil 1) (.cons (.nil 5) .nil)))))) (zO1 _ (noV)) V (.refl _) (.iface _ _ (.int _ _)) ⟨by rw [zM3, hBq]; rfl, rfl⟩
  ·
   refine zR zP3 V zQ3 (zA V) ?_
   refine zB <| qR V <| qB V V V V V <| qB V V V V V <| qB V V V V V <| qO V <| zM0 V zm27 V V <| qA V V V <| qN <| zB <| zB <| qR V <| qF V V V zB2 <| qL V V V V ta3 V <| qN <| zB0 <| zB <| zB <| qR V <| qC V V V V V <| qA V V V <| qN ?_
   refine zK V (V) <| qR V <| qC V V V V V <| qA V V V <| qN <| zK V (V) <| zB <| qR V <| qC V V V V V <| qA V V V <| qN <| zK V (V) <| zB <| qR V <| qC V V V V V <| qA V V V <| qN <| zK V (V) <| zB <| qR V <| qC V V V V V <| qA V V V ?_
   refine qN <| zK V (V) <| zB <| qR V <| qC V V V V V <| qA V V V <| qN <| zK V (V) <| zB <| qR V <| qC V V V V V <| qA V V V <| qN <| zK V (V) <| zB <| qR V <| qC V V V V V <| qA V V V <| qN <| zU V (V) <| qR V <| qL V V V V ta53 V <| qL V V V V ta27 V ?_
   refine qL V V V V ta27 V ?_
   refine qX V V V V co233 (hof _) ?_
   refine qM V V V <| qO V <| zS V V V <| qO V <| zS V V V <| qO V <| zZ V V V V sz27 V V (zA V) V <| qA V V V <| qN <| zB <| zB <| qR V <| qM V V V <| qO V <| zV3 V zA0 V V (.inl Vv) <| qM V V V <| qL V V V V ta27 V ?_
   refine qX V V V V co234 (zR4 n3 m3 s3 c3 w3 _) ?_
   refine qP V V V V <| qN ?_
   refine zM V (fun h69 => ?_) (fun h69 => ?_)
   ·
    refine qR V <| qO V <| zK1 V V zD1 (by simp) ?_
    refine qA V V V <| qN <| zB <| zB <| qR V <| qM V V V <| qO V <| zS2 V zA0 V V (.inr Vv) <| qN <| zU V (V) <| zB <| qR V <| qO V <| zR1 V zN1 zm27 .nil (by kernel_rfl) ?_
    refine qM V V V <| qO V <| zZ V V V V sz27 V V (zA V) V <| qA V V V <| qN <| zH ?_
    exact zJ1 (.inr V) zX1 V V ta27 V (.agg (.cons (.refl _) (.cons (.refl _) (.cons (.nil 1) (.cons (.nil 1) (.cons (.nil 5) .nil)))))) (zO1 _ (noV)) V (.refl _) (.iface _ _ (.int _ _)) ⟨by rw [zM3, hBq, cap_t h69]; rfl, rfl⟩
   ·
    refine zX <| zB <| zB <| qR V <| qM V V V <| qO V <| zV3 V zA0 V V (.inr Vv) <| qN <| zK V (V) <| zX <| zB <| qR V <| qL V V V V ta27 V <| qO V <| zZ V V V V sz27 V V (zA V) V <| qA V V V <| qN <| zH ?_
    exact zJ1 (.inr V) zX1 V V ta27 V (.refl _) (zO1 _ (.mk n3 m3 s3 c3 w3)) V (.refl _) (.iface0) ⟨by rw [zM3, hBq, cap_f h69]; rfl, rfl⟩
theorem join_err {s : Sch} {a b : Val} (h : ¬ ((isF 16 s && isVF s a) = true ∧ (isF 16 s && isVF s b) = true)) : joinVF s a b = .error 14 := by unfold joinVF; rw [if_neg h]
theorem join_both {s : Sch} {a b : Val} (ha : (isF 16 s && isVF s a) = true) (hb : (isF 16 s && isVF s b) = true) : encJ (joinVF s a b) = encO (bothF s a b) := by
 unfold joinVF
 rw [if_pos ⟨ha, hb⟩]
 cases bothF s a b <;> rfl
theorem join_spec (s : Sch) (a b : Val) (ha : okV a) (hb : okV b) (S : MS) : MCalls Tryz.prog 145 [encS s, encV a, encV b] S fun v σ' => v = encJ (joinVF s a b) ∧ σ' = S := by
 obtain ⟨k, ins⟩ := s
 obtain ⟨n1, m1, s1, c1, w1⟩ := a
 obtain ⟨n2, m2, s2, c2, w2⟩ := b
 refine zR Tryz.func145 V Tryz.ntmps145 (zA V) ?_
 refine zB <| qR V <| qB V V V V V <| qB V V V V V <| qB V V V V V <| qO V <| zM0 V zm27 V V <| qA V V V <| qN <| zB <| zB <| qR V <| qL V V V V ta53 V <| qL V V V V ta27 V ?_
 refine qX V V V V co116 (valIs_spec (.mk k ins) (.mk n1 m1 s1 c1 w1) ha _) ?_
 refine qO V <| zF1 V V <| qM V V V ?_
 refine zH0 (fun h12 => ?_) (fun h12 => ?_)
 ·
  refine qT V V V V <| qP V V V V <| qN <| zU V (V) <| zB <| qR V <| qO V <| zR1 V zN1 zm27 .nil (by kernel_rfl) ?_
  refine qO V <| zK1 V V zD1 (by simp) ?_
  refine qO V <| zZ V V V V sz27 V V (zA V) V <| qA V V V <| qN <| zH ?_
  exact zJ1 (.inr V) Tryz.results145 V V ta27 V (.agg (.cons (.refl _) (.cons (.refl _) (.cons (.nil 1) (.cons (.nil 1) (.cons (.nil 5) .nil)))))) (zO1 _ (noV)) V (.refl _) (.iface _ _ (.int _ _)) ⟨by rw [join_err (fun hq => by first | (rw [hq.1] at h12; exact absurd h12 (by decide)) | (rw [hq.2] at h17; exact absurd h17 (by decide)))]; rfl, rfl⟩
 ·
  refine qL V V V V ta53 V <| qL V V V V ta27 V ?_
  refine qX V V V V co116 (valIs_spec (.mk k ins) (.mk n2 m2 s2 c2 w2) hb _) ?_
  refine qO V <| zF1 V V <| qP V V V V <| qN ?_
  refine zM V (fun h17 => ?_) (fun h17 => ?_)
  ·
   refine zB <| qR V <| qO V <| zR1 V zN1 zm27 .nil (by kernel_rfl) ?_
   refine qO V <| zK1 V V zD1 (by simp) ?_
   refine qO V <| zZ V V V V sz27 V V (zA V) V <| qA V V V <| qN <| zH ?_
   exact zJ1 (.inr V) Tryz.results145 V V ta27 V (.agg (.cons (.refl _) (.cons (.refl _) (.cons (.nil 1) (.cons (.nil 1) (.cons (.nil 5) .nil)))))) (zO1 _ (noV)) V (.refl _) (.iface _ _ (.int _ _)) ⟨by rw [join_err (fun hq => by first | (rw [hq.1] at h12; exact absurd h12 (by decide)) | (rw [hq.2] at h17; exact absurd h17 (by decide)))]; rfl, rfl⟩
  ·
   refine zX <| zB ?_
   have ha2 : (isF 16 (.mk k ins) && isVF (.mk k ins) (.mk n1 m1 s1 c1 w1)) = true := by simpa using h12
   have hb2 : (isF 16 (.mk k ins) && isVF (.mk k ins) (.mk n2 m2 s2 c2 w2)) = true := by simpa using h17
   have hof := both_spec 16 (.mk k ins) (by rw [Bool.and_eq_true] at ha2; exact ha2.1) (.mk n1 m1 s1 c1 w1) (.mk n2 m2 s2 c2 w2) (by rw [Bool.and_eq_true] at ha2; exact ha2.2) (by rw [Bool.and_eq_true] at hb2; exact hb2.2)
   obtain ⟨n3, m3, s3, c3, w3, h3⟩ := encO_of (bothF (.mk k ins) (.mk n1 m1 s1 c1 w1) (.mk n2 m2 s2 c2 w2))
   have hO : encO (bothF (.mk k ins) (.mk n1 m1 s1 c1 w1) (.mk n2 m2 s2 c2 w2)) = .tup [encV (.mk n3 m3 s3 c3 w3), errO (bothF (.mk k ins) (.mk n1 m1 s1 c1 w1) (.mk n2 m2 s2 c2 w2))] := by rw [encO, h3]
   rw [hO] at hof
   refine qR V <| qL V V V V ta53 V <| qL V V V V ta27 V <| qL V V V V ta27 V ?_
   refine qX V V V V co188 (hof _) ?_
   refine qO V <| zS V V V <| qO V <| zS V V V <| qO V <| zZ V V V V sz27 V V (zA V) V <| qA V V V <| qN <| zH ?_
   exact zJ1 (.inr V) Tryz.results145 V V ta27 V (.refl _) (zO1 _ (.mk n3 m3 s3 c3 w3)) V (.refl _) ((cl_errO _ _)) ⟨by rw [join_both ha2 hb2, hO]; rfl, rfl⟩
end Go.Proofs.YtciimaabeabkdaaGreatDoor
namespace Go.Proofs.YtciimaabeabkdaaGreatDoor
open Go Go.MV Go.RowKit Go.Extern.Stop Go.Extern
theorem tT (v : Value) (w : World) : (Extern.ReflectliteType.typeOf #[.iface 49 v]).run Tryz.prog w = .ok (.iface 208 (.agg #[.pointer (some ⟨Tryz.prog.globals.size, 49, none⟩)])) w := by kernel_rfl
theorem cT (w : World) : ((Extern.ReflectliteType.method fun t => do Extern.Rtype.noPackHeld "Comparable" t; pure (.bool (← typeInfo t).comparable)) #[.agg #[.pointer (some ⟨Tryz.prog.globals.size, 49, none⟩)]]).run Tryz.prog w = .ok (.bool true) w := by kernel_rfl
theorem mR (v : Value) (w : World) : (Go.method 490 208 v "Comparable").run Tryz.prog w = .ok (332, v) w := by kernel_rfl
theorem errComp : (Tryz.prog.info? 49).map (·.comparable) = some true := by kernel_rfl
theorem eqErr (n : Int) (w : World) : (binOp .eql 43 (.iface 49 (.int .i64 n)) (.iface 49 (.int .i64 n))).run Tryz.prog w = .ok (.bool true) w := by
 obtain ⟨i, hi, hcmp⟩ := Option.map_eq_some_iff.1 errComp
 have h : ∀ d : Nat, (Op.equalIn (d + 2) 43 (.iface 49 (.int .i64 n)) (.iface 49 (.int .i64 n))).run Tryz.prog w = .ok true w := fun d => by
  simp [Op.equalIn, run_underlying zA0, run_underlying zD1, typeInfo, hi, hcmp]
 simp only [binOp]
 simp [Op.equal, Op.maxDepth, h 9998]
theorem nilErr (v : Value) (w : World) : (binOp .eql 43 (.iface 49 v) .nilIface).run Tryz.prog w = .ok (.bool false) w := by
 have h : ∀ d : Nat, (Op.equalIn (d + 1) 43 (.iface 49 v) .nilIface).run Tryz.prog w = .ok false w := fun d => by simp [Op.equalIn, run_underlying zA0]
 simp only [binOp]
 simp [Op.equal, Op.maxDepth, h 9999]
theorem isSame (n : Int) (w : World) : Calls Tryz.prog 18 #[.iface 49 (.int .i64 n), .iface 49 (.int .i64 n)] w fun e w' => e = .returned (.bool true) ∧ w' = w := by
 have h8 := @run_callFunc_extern Tryz.prog 73 _ Extern.ReflectliteType.typeOf Tryz.func73 (by kernel_rfl) (by kernel_rfl) (by kernel_rfl) (by kernel_rfl)
 have h32 := @run_callFunc_extern Tryz.prog 332 _ (Extern.ReflectliteType.method fun t => do Extern.Rtype.noPackHeld "Comparable" t; pure (.bool (← typeInfo t).comparable)) Tryz.func332 (by kernel_rfl) (by kernel_rfl) (by kernel_rfl) (by kernel_rfl)
 obtain ⟨H, hT, hC⟩ : ∃ H : Value, (∀ (v : Value) (w : World), (callFunc 73 #[.iface 49 v]).run Tryz.prog w = .ok (.value (.iface 208 H)) w) ∧ (∀ w : World, (callFunc 332 #[H]).run Tryz.prog w = .ok (.value (.bool true)) w) := ⟨_, fun v w => by rw [h8, tT]; rfl, fun w => by rw [h32, cT]; rfl⟩
 clear h8 h32
 have mR := mR
 have heq := eqErr n w
 have hnil := nilErr (.int .i64 n) w
 go_enter Tryz.func18, Tryz.ntmps18
 go_wp2
 refine wp_loop_rounds 1 ?_
 rw [rounds_succ]
 go_wp2
 go_ret
 exact ⟨rfl, rfl⟩
theorem errIs_spec (n : Int) (S : MS) : MCalls Tryz.prog 18 [.iface 49 (.int .i64 n), .iface 49 (.int .i64 n)] S fun v σ' => v = .bool true ∧ σ' = S := by
 intro g w vs hrel hrd
 obtain ⟨u, us, rfl, h1, h2⟩ := hrd.uncons
 obtain ⟨u2, us2, rfl, h3, h4⟩ := h2.uncons
 obtain ⟨a, rfl, ha⟩ := h1.inv_iface
 obtain ⟨b, rfl, hb⟩ := h3.inv_iface
 have e1 := ha.inv_int
 have e2 := hb.inv_int
 have e3 : us2 = [] := List.eq_nil_of_length_eq_zero h4.1
 subst e1 e2 e3
 refine (callsIn_wide.2 (isSame n w)).mono ?_
 rintro e w' ⟨rfl, rfl⟩
 exact ⟨_, rfl, .bool true, S, g, ⟨rfl, rfl⟩, hrel, .bool _, .refl _ _⟩
end Go.Proofs.YtciimaabeabkdaaGreatDoor
namespace Go.MV
open Go Go.RowKit
section
section
variable {P : Program} {rd : Option Nat} {o : Oper} {env : Env} {σ : MS} {K : MV → MS → Prop}
theorem op_ifint {b : BinOp} {r : Bool} {t e t' : TypeId} {x y : Operand} {k k' : IntKind} {m n : Int} {ms : Array (String × TypeId)} (ho : o.op = .binOp b t x y t') (hu : P.underlying t = some (.interface ms)) (hc : (P.info? e).map (·.comparable) = some true) (he : P.underlying e = some (.int k'))
  (hx : evo env x = some (.iface e (.int k m))) (hy : evo env y = some (.iface e (.int k n))) (hb : b = .eql ∧ r = (m == n) ∨ b = .neq ∧ r = !(m == n)) (h : K (.bool r) σ) : OpWp P rd o env σ K := by
 refine OpWp.of_run (by rcases hb with ⟨rfl, _⟩ | ⟨rfl, _⟩ <;> simp [ho]) fun g w a hr hop => ?_
 obtain ⟨u, e1, h1⟩ := (hop x (by simp [ho, Op.operands]) _ hx).inv_iface
 obtain ⟨u2, e2, h2⟩ := (hop y (by simp [ho, Op.operands]) _ hy).inv_iface
 have h1 := h1.inv_int
 have h2 := h2.inv_int
 subst h1 h2
 refine ⟨.bool r, w, ?_, .same h hr (.bool _)⟩
 obtain ⟨i, hi, hcmp⟩ := Option.map_eq_some_iff.1 hc
 have h9 : ∀ d : Nat, (Op.equalIn (d + 2) t (.iface e (.int k m)) (.iface e (.int k n))).run P w = .ok (m == n) w := fun d => by
  simp [Op.equalIn, run_underlying hu, run_underlying he, typeInfo, hi, hcmp]
 rcases hb with ⟨rfl, rfl⟩ | ⟨rfl, rfl⟩ <;> (simp only [execOp, ho, e1, e2, Sem.run_bind, Sem.run_pure]; simp [eqGuard, binOp, Op.equal, Op.maxDepth, h9 9998])
theorem op_nilif {b : BinOp} {r : Bool} {t e t' : TypeId} {x y : Operand} {m : MV} {ms : Array (String × TypeId)} (ho : o.op = .binOp b t x y t') (hu : P.underlying t = some (.interface ms)) (hx : evo env x = some .iface0) (hy : evo env y = some (.iface e m)) (hb : b = .eql ∧ r = false ∨ b = .neq ∧ r = true) (h : K (.bool r) σ) : OpWp P rd o env σ K := by
 refine OpWp.of_run (by rcases hb with ⟨rfl, rfl⟩ | Vv <;> simp [ho]) fun g w a hr hop => ?_
 obtain ⟨u, e1, _⟩ := (hop y (by simp [ho, Op.operands]) _ hy).inv_iface
 have e2 := (hop x (by simp [ho, Op.operands]) _ hx).inv_iface0
 refine ⟨.bool r, w, ?_, .same h hr (.bool _)⟩
 have h9 : ∀ d : Nat, (Op.equalIn (d + 1) t .nilIface (.iface e u)).run P w = .ok false w := fun d => by simp [Op.equalIn, run_underlying hu]
 rcases hb with ⟨rfl, rfl⟩ | ⟨rfl, rfl⟩ <;> (simp only [execOp, ho, e1, e2, Sem.run_bind, Sem.run_pure]; simp [eqGuard, binOp, Op.equal, Op.maxDepth, h9 9999])
end
end
end Go.MV
namespace Go.Proofs.YtciimaabeabkdaaGreatDoor
open Go Go.MV
theorem joinE {s : Sch} {a b : Val} {e : Int} (h : joinVF s a b = .error e) : e = 13 ∨ e = 14 := by
 unfold joinVF at h
 split at h
 ·split at h
  ·cases h
  ·injection h with h; exact .inl h.symm
 ·injection h with h; exact .inr h.symm
theorem joinR (s : Sch) (a b : Val) : (∃ n m t c w, joinVF s a b = .ok (.mk n m t c w)) ∨ joinVF s a b = .error 13 ∨ joinVF s a b = .error 14 := by
 cases h : joinVF s a b with
 | ok v => obtain ⟨n, m, t, c, w⟩ := v; exact .inl ⟨_, _, _, _, _, rfl⟩
 | error e =>
  rcases joinE h with rfl | rfl
  ·exact .inr (.inl rfl)
  ·exact .inr (.inr rfl)
noncomputable def leqVF (s : Sch) (a b : Val) : Except Int Bool := match joinVF s a b with | .ok j => .ok (decide (j = b)) | .error e => if e = 14 then .error 14 else .ok false
def encL (r : Except Int Bool) : MV := .tup [.bool (match r with | .error _ => false | .ok v => v), match r with | .error n => encErr n | .ok _ => .iface0]
theorem leq_ok {s : Sch} {a b j : Val} (h : joinVF s a b = .ok j) : leqVF s a b = .ok (decide (j = b)) := by unfold leqVF; rw [h]
theorem leq_13 {s : Sch} {a b : Val} (h : joinVF s a b = .error 13) : leqVF s a b = .ok false := by unfold leqVF; rw [h]; rfl
theorem leq_14 {s : Sch} {a b : Val} (h : joinVF s a b = .error 14) : leqVF s a b = .error 14 := by unfold leqVF; rw [h]; rfl
theorem okCmp : (Tryz.prog.info? 49).map (·.comparable) = some true := by kernel_rfl
theorem leq_spec (s : Sch) (a b : Val) (ha : okV a) (hb : okV b) (S : MS) : MCalls Tryz.prog 146 [encS s, encV a, encV b] S fun v σ' => v = encL (leqVF s a b) ∧ σ' = S := by
 obtain ⟨k, ins⟩ := s
 obtain ⟨n1, m1, s1, c1, w1⟩ := a
 obtain ⟨n2, m2, s2, c2, w2⟩ := b
 refine zR Tryz.func146 V Tryz.ntmps146 (zA V) ?_
 refine zB <| qR V <| qB V V V V V <| qB V V V V V <| qB V V V V V <| qA V V V <| qA V V V <| qN <| zB ?_
 have hof := join_spec (.mk k ins) (.mk n1 m1 s1 c1 w1) (.mk n2 m2 s2 c2 w2) ha hb
 rcases joinR (.mk k ins) (.mk n1 m1 s1 c1 w1) (.mk n2 m2 s2 c2 w2) with ⟨n3, m3, s3, c3, w3, hj⟩ | hj | hj <;> rw [hj] at hof
 ·
  refine qR V <| qL V V V V ta53 V <| qL V V V V ta27 V <| qL V V V V ta27 V ?_
  refine qX V V V V co145 (hof _) ?_
  refine qM V V V <| qO V <| zS V V V <| qO V <| zS V V V <| qO V <| zM0 V zm27 V V <| qO V <| zZ V V V V sz27 V V (zA V) V <| qA V V V <| qN <| zB <| zB <| qR V <| qM V V V <| qN <| zB0 <| zB <| qR V <| qO V <| zK1 V V zD1 (by simp) ?_
  refine qO V <| op_nilif V zA0 V V (.inl Vv) <| qA V V V <| qN <| zK V (V) <| zB <| qR V <| qO V <| zV3 V zA0 V V (.inl Vv) <| qA V V V <| qN <| zU V (V) <| zB <| qR V <| qL V V V V ta27 V <| qL V V V V ta27 V ?_
  refine qX V V V V co68 (valSame_spec (.mk n3 m3 s3 c3 w3) (.mk n2 m2 s2 c2 w2) _) ?_
  refine qA V V V <| qA V V V <| qN <| zH ?_
  exact ret_tmp2 (.inr V) Tryz.results146 V V (.refl _) (.refl _) (.bool _) (.iface0) ⟨by rw [leq_ok hj]; rfl, rfl⟩
 ·
  refine qR V <| qL V V V V ta53 V <| qL V V V V ta27 V <| qL V V V V ta27 V ?_
  refine qX V V V V co145 (hof _) ?_
  refine qM V V V <| qO V <| zS V V V <| qO V <| zS V V V <| qO V <| zM0 V zm27 V V <| qO V <| zZ V V V V sz27 V V (zA V) V <| qA V V V <| qN <| zB <| zB <| qR V <| qM V V V <| qN <| zB0 <| zB <| qR V <| qO V <| zK1 V V zD1 (by simp) ?_
  refine qO V <| op_ifint V zA0 okCmp zD1 V V (.inl Vv) <| qA V V V <| qN <| zK V (V) <| zB <| qR V <| qO V <| zS2 V zA0 V V (.inl Vv) <| qA V V V <| qN <| zK V (V) <| zX <| zB <| qR V <| qA V V V <| qA V V V <| qN <| zH ?_
  exact ret_tmp2 (.inr V) Tryz.results146 V V (.refl _) (.refl _) (.bool _) (.iface0) ⟨by rw [leq_13 hj]; rfl, rfl⟩
 ·
  refine qR V <| qL V V V V ta53 V <| qL V V V V ta27 V <| qL V V V V ta27 V ?_
  refine qX V V V V co145 (hof _) ?_
  refine qM V V V <| qO V <| zS V V V <| qO V <| zS V V V <| qO V <| zM0 V zm27 V V <| qO V <| zZ V V V V sz27 V V (zA V) V <| qA V V V <| qN <| zB <| zB <| qR V <| qM V V V <| qN <| zB0 <| zB <| qR V <| qO V <| zK1 V V zD1 (by simp) ?_
  refine qO V <| op_ifint V zA0 okCmp zD1 V V (.inl Vv) <| qA V V V <| qN <| zU V (V) <| zB <| qR V <| qO V <| zK1 V V zD1 (by simp) ?_
  refine qA V V V <| qA V V V <| qN <| zH ?_
  exact ret_tmp2 (.inr V) Tryz.results146 V V (.refl _) (.refl _) (.bool _) (.iface _ _ (.int _ _)) ⟨by rw [leq_14 hj]; rfl, rfl⟩
end Go.Proofs.YtciimaabeabkdaaGreatDoor
section
namespace Go.MV
open Go Go.RowKit
section
variable {P : Program} {rd : Option Nat} {o : Oper} {env : Env} {S L : MS} {K : MV → MS → Prop}
theorem op_makeMapT {t : TypeId} {k : Nat} {L' : MS} (ho : o.op = .makeMap t none) (hk : L.length = k) (hL : L ++ [.mp 0 []] = L') (h : K (.map (S.length + k)) (S ++ L')) : OpWp P rd o env (S ++ L) K :=
 op_makeMap ho (by rw [zE, hk, zO, hL]; exact h)
theorem op_buildSlice0' {t e sz bytes k : Nat} {L' : MS} (ho : o.op = .buildSlice t 0 #[]) (hu : P.underlying t = some (.slice e)) (he : elemOk P e sz bytes = true) (hk : L.length = k) (hL : L ++ [.row e sz 0] = L') (h : K (.lst (some (S.length + k)) sz []) (S ++ L')) : OpWp P rd o env (S ++ L) K :=
 op_buildSlice0 ho hu he (by rw [zE, hk, zO, hL]; exact h)
end
end Go.MV
namespace Go.Proofs.YtciimaabeabkdaaGreatDoor
open Go Go.MV
def tabs4 : List Tbl := [([109], 1, .mk 1 []), ([115], 1, .mk 3 []), ([108], 2, .mk 6 []), ([99], 3, causeS (.mk 3 []))]
def zV : MV := .agg [.int .u64 0, .int .u64 0, .lst0, .lst0, .lst0]
theorem cl_tbs (n : Nat) (l : List Tbl) : Cl n (.lst none 4 (l.map encTb)) := by
 refine .lst none 4 _ (fun t ht => by cases ht) fun x hx => ?_
 simp only [flat, List.mem_flatMap, List.mem_map] at hx
 obtain ⟨y, ⟨t, _, rfl⟩, hx⟩ := hx
 have h := cl_encTb n t
 obtain ⟨a, b, ⟨k, i⟩⟩ := t
 cases h with
 | agg _ h => exact h x hx
def tbO (l : List Tbl) (keys : List Bs) (mid : Nat) : MObj := .cells [.lst none 4 (l.map encTb), .lst none 1 (keys.map encX), .map mid]
def tbO0 (l : List Tbl) (mid : Nat) : MObj := .cells [.lst none 4 (l.map encTb), .lst0, .map mid]
def getF (l : List Tbl) (w : Option Val) (key : Bs) : Val := w.getD (BottomF ((findP l key).getD tb0).2.2)
theorem law13_tables_spec (S : MS) : MCalls Tryz.prog 26 [] S fun v σ' => v = .lst none 4 (tabs4.map encTb) ∧ σ' = S := by
 refine zR Tryz.func26 V Tryz.ntmps26 (zA V) ?_
 refine zB <| qR V <| qA V V V <| qN <| zB <| qR V <| qO V <| zR1 V zT2 zm53 (.cons zB2 sz3 V V (zA V) .nil) (by kernel_rfl) ?_
 refine qO V <| zH3 (y := encTb ([109], 1, .mk 1 [])) (zR1 V zT3 zm55 (.cons fo55_0 sz9 V V (zA V) (.cons fo55_1 sz3 V V (zA V) (.cons zT4 sz53 V V (zA V) .nil))) (by kernel_rfl) Vv) (.agg (.cons (.refl _) (.cons (.refl _) (.cons (.refl _) (.cons (.nil 2) .nil))))) ?_
 refine qO V <| zR1 V zT2 zm53 (.cons zB2 sz3 V V (zA V) .nil) (by kernel_rfl) ?_
 refine qO V <| zH3 (y := encTb ([115], 1, .mk 3 [])) (zR1 V zT3 zm55 (.cons fo55_0 sz9 V V (zA V) (.cons fo55_1 sz3 V V (zA V) (.cons zT4 sz53 V V (zA V) .nil))) (by kernel_rfl) Vv) (.agg (.cons (.refl _) (.cons (.refl _) (.cons (.refl _) (.cons (.nil 2) .nil))))) ?_
 refine qO V <| zR1 V zT2 zm53 (.cons zB2 sz3 V V (zA V) .nil) (by kernel_rfl) ?_
 refine qO V <| zH3 (y := encTb ([108], 2, .mk 6 [])) (zR1 V zT3 zm55 (.cons fo55_0 sz9 V V (zA V) (.cons fo55_1 sz3 V V (zA V) (.cons zT4 sz53 V V (zA V) .nil))) (by kernel_rfl) Vv) (.agg (.cons (.refl _) (.cons (.refl _) (.cons (.refl _) (.cons (.nil 2) .nil))))) ?_
 refine qO V <| zH3 (y := encS (.mk 3 [])) (zR1 V zT2 zm53 (.cons zB2 sz3 V V (zA V) .nil) (by kernel_rfl) Vv) (.agg (.cons (.refl _) (.cons (.nil 2) .nil))) ?_
 refine qX V V V V co62 (rCauseSch_spec (.mk 3 []) _) ?_
 refine qO V <| zR1 V zT3 zm55 (.cons fo55_0 sz9 V V (zA V) (.cons fo55_1 sz3 V V (zA V) (.cons zT4 sz53 V V (zA V) .nil))) (by kernel_rfl) ?_
 refine qO V <| zL1 V zJ2 el55 V V (by decide) (by decide) V V ?_
 refine qA V V V <| qN <| zH ?_
 exact zT (.inr V) Tryz.results26 V (.of_eq (V)) (cl_tbs _ tabs4) Vv
theorem _root_.zB1 : type_of% @law13_tables_spec := @law13_tables_spec
theorem tbClone_spec (l : List Tbl) (hl : l.length ≤ 1000) (S : MS) : MCalls Tryz.prog 83 [.lst none 4 (l.map encTb)] S fun v σ' => v = .lst none 4 (l.map encTb) ∧ σ' = S := by
 refine zR Tryz.func83 V Tryz.ntmps83 (zA V) ?_
 refine zB <| qR V <| qA V V V <| qN <| zB <| zB <| qR V <| qM V V V <| qO V <| op_slicenil V zJ2 V V (by decide) ?_
 intro b hb
 refine qN ?_
 refine zM V (fun h4 => ?_) (fun h4 => ?_)
 ·
  have hl0 : l = [] := by simpa using hb h4
  subst hl0
  refine zB <| qR V <| qA V V V <| qN <| zH ?_
  exact zT (.inr V) Tryz.results83 V (.nil 4) (cl_tbs _ []) Vv
 ·
  refine zX <| zB <| qR V <| qO V <| op_buildSlice0' V zJ2 el55 V V <| qM V V V <| qO V <| zK3 V zJ2 el55 V V V (by simp) (by simp; omega) (by simp; omega) V ?_
  refine qA V V V <| qN <| zH ?_
  exact zT (.inr V) Tryz.results83 V (.view _ _ _) (cl_tbs _ l) Vv
end Go.Proofs.YtciimaabeabkdaaGreatDoor
end
namespace Go.Proofs.YtciimaabeabkdaaGreatDoor
open Go Go.MV Go.RowKit
section
abbrev RdS := Bs × Option Int
def failR (e : Int) (r : RdS) : RdS := (r.1, match r.2 with | none => some e | some x => some x)
def numScan (n i : Nat) : Bs → Except Int (Nat × Bs)
 | [] => .error 11
 | c :: l =>
  if 64 ≤ 7 * i ∨ 18446744073709551616 ≤ (c.toNat % 128) * 2 ^ (7 * i) ∨ (0 < i ∧ c = 0) then .error 10
  else if c.toNat < 128 then .ok (n + c.toNat % 128 * 2 ^ (7 * i), l)
  else numScan (n + c.toNat % 128 * 2 ^ (7 * i)) (i + 1) l
def numM (r : RdS) : Nat × RdS := match r.2 with
 | some _ => (0, r)
 | none => match numScan 0 0 r.1 with | .ok (n, l) => (n, (l, none)) | .error e => (0, (r.1, some e))
def textM (r : RdS) : Bs × RdS :=
 if (numM r).2.2.isSome then ([], (numM r).2)
 else if 16 < (numM r).1 then ([], failR 13 (numM r).2)
 else if (numM r).2.1.length < (numM r).1 then ([], failR 11 (numM r).2)
 else ((numM r).2.1.take (numM r).1, ((numM r).2.1.drop (numM r).1, (numM r).2.2))
theorem numB_lo {m : Nat} (h : m < 128) : numB m = [UInt8.ofNat m] := by rw [numB, dif_pos h]
theorem numB_hi {m : Nat} (h : ¬ m < 128) : numB m = UInt8.ofNat (m % 128 + 128) :: numB (m / 128) := by rw [numB, dif_neg h]
structure Cod {α : Type} (M : RdS → α × RdS) (E : α → Bs) (P Q : α → Prop) : Prop where
 er : ∀ b e, (M (b, some e)).2 = (b, some e)
 rt : ∀ x rest, P x → M (E x ++ rest, none) = (x, (rest, none))
 sh : ∀ x p q, P x → E x = p ++ q → q ≠ [] → (M (p, none)).2.2 = some 11
 un : ∀ b x rest, M (b, none) = (x, (rest, none)) → Q x → b = E x ++ rest
section
variable {α : Type} {one : RdS → α × RdS} {E : α → Bs} {P Q : α → Prop} (h : Cod one E P Q)
include h
def rowB {α : Type} (E : α → Bs) (l : List α) : Bs := numB l.length ++ l.flatMap E
omit h in
end
end
def errV : Option Int → MV
 | none => .iface0
 | some x => .iface 49 (.int .i64 x)
def rdO (r : RdS) : MObj := .cells [.str (bs r.1), errV r.2]
theorem cl_errV (n : Nat) : ∀ e, Cl n (errV e)
 | none => .iface0
 | some x => .iface _ _ (.int _ _)
theorem rd_cl (n : Nat) (r : RdS) : (rdO r).cl n := fun x hx => by
 rcases List.mem_cons.1 hx with rfl | hx
 ·exact .str _
 ·rcases List.mem_cons.1 hx with rfl | hx
  ·exact cl_errV _ _
  ·cases hx
def Reads {α : Type} (k : FuncId) (xs : List MV) (id : Nat) (en : α → MV) (M : RdS → α × RdS) : Prop := ∀ (r : RdS) (S : MS), S[id]? = some (rdO r) → r.1.length ≤ 8000000 → MCalls Tryz.prog k xs S fun v σ' => v = en (M r).1 ∧ σ' = S.set id (rdO (M r).2)
theorem set_sl {S L : MS} {id : Nat} {r : RdS} {o : MObj} (h : S[id]? = some (rdO r)) : (S ++ L).set id o = S.set id o ++ L := List.set_append_left _ _ (zD.1 h).1
theorem get_sl {S L : MS} {id : Nat} {o : MObj} (h : S[id]? = some o) : (S ++ L)[id]? = some o := by rw [List.getElem?_append_left (zD.1 h).1]; exact h
theorem Reads.sl {α : Type} {k : FuncId} {xs : List MV} {id : Nat} {en : α → MV} {M : RdS → α × RdS} (h : Reads k xs id en M) {r : RdS} {S L : MS} (hr : S[id]? = some (rdO r)) (hl : r.1.length ≤ 8000000) : MCalls Tryz.prog k xs (S ++ L) fun v σ' => v = en (M r).1 ∧ σ' = S.set id (rdO (M r).2) ++ L :=
 (h r (S ++ L) (get_sl hr) hl).mono fun v σ' hv => ⟨hv.1, by rw [hv.2, set_sl hr]⟩
end Go.Proofs.YtciimaabeabkdaaGreatDoor
namespace Go.MV
open Go Go.RowKit
section
section
variable {P : Program} {rd : Option Nat} {o : Oper} {env : Env} {σ : MS} {K : MV → MS → Prop}
theorem gets_appendS {g : Gh} {w : World} (hr : Rel g σ w) {tt tu ty' e sz bytes t n : Nat} (hsz1 : sz = 1) (hu : P.underlying tt = some (.slice e)) (hut : P.underlying tu = some .string) (he : elemOk P e sz bytes = true) (hσ : σ[t]? = some (.row e sz n)) {xs ys : List MV} {l : Bs} (hys : ys = l.map encY) {v : Value} (hx : Rd g w (.lst (some t) sz xs) v) (hn : xs.length = n)
   (hbound : (n + ys.length) * bytes ≤ 140737488355328) (hml : n + ys.length ≤ 4611686018427387904) (hK : K (.lst (some t) sz (xs ++ ys)) (σ.set t (.row e sz (n + ys.length)))) :
    ∃ v' w', (Builtin.append_ #[tt, tu] ty' #[v, .string (bs l)]).run P w = .ok v' w' ∧ Gets g w K v' w' := by
  obtain ⟨i, z, hi, hz, hs, hb, hzs, hpos⟩ := elemOk_spec he
  obtain ⟨a, c, us, hv, h1, h2, h3, h4, h5, h6⟩ := hx.inv_lst
  have hbl0 : (bs l).size = l.length := by simp [bs, ByteArray.size]
  have hyl : l.length = ys.length := by rw [hys, zF]
  rw [hyl] at hbl0
  obtain ⟨us', hus'⟩ : ∃ us', us' = Lib.strCells (bs l) := ⟨_, rfl⟩
  have k3 : ∀ y ∈ ys, y.cells.length = sz := fun y hy => by
    rw [hys] at hy
    obtain ⟨b, _, rfl⟩ := List.mem_map.1 hy
    rw [hsz1]; rfl
  have hfys : flat ys = ys := by rw [hys, flat_encY]
  have k4 : Rds g w (flat ys) us' := by
    rw [hfys, hys, hus']
    refine ⟨by simp [Lib.strCells, bs], fun j y u hy hu => ?_⟩
    simp only [Lib.strCells, bs] at hu
    rw [zI0] at hy hu
    obtain ⟨b, hb, rfl⟩ := Option.map_eq_some_iff.1 hy
    rw [hb] at hu
    injection hu with hu
    rw [← hu]
    exact .int _ _
  have hsmall : n + ys.length ≤ maxLen := by simp only [maxLen]; omega
  have hlen' : us'.length = ys.length * i.size := by rw [hs, k4.1, flat_length k3]
  have hlen : us.length = n * i.size := by rw [hs, h4.1, flat_length h3, hn]
  by_cases hm : ys = []
  · have hl0 : l = [] := List.eq_nil_of_length_eq_zero (by rw [hyl, hm]; rfl)
    subst hl0
    rw [hm] at hK
    simp only [List.append_nil, List.length_nil, Nat.add_zero] at hK
    rw [set_self hσ] at hK
    refine ⟨v, w, ?_, .same hK hr hx⟩
    subst hv
    have e0 : (bs []).size = 0 := rfl
    have e1 : ((bs []).extract 0 0).data = #[] := rfl
    cases a with
    | none => simp [Builtin.append_, run_underlying hu, run_underlying hut, sizeOf, typeInfo, hi, Builtin.lenOf, Builtin.firstCells, h1, e0, e1]
    | some ad => simp [Builtin.append_, run_underlying hu, run_underlying hut, sizeOf, typeInfo, hi, Builtin.lenOf, Builtin.firstCells, h1, e0, e1, storeCells]
  have hmpos : 0 < ys.length := List.length_pos_iff.2 hm
  have hp' : 0 < us'.length := by rw [hlen', hs]; exact Nat.mul_pos hmpos hpos
  have hone : ∀ u ∈ us', u.oneCell' = true := by rw [hus']; exact Lib.strCells_oneCell _
  have hone0 : ∀ u ∈ us, u.oneCell' = true := fun u hmem => by
    obtain ⟨j, hj⟩ := List.getElem?_of_mem hmem
    obtain ⟨_, _, hst⟩ := h5 j u hj
    exact hst.2.2
  have holds : ∀ (j : Nat) (u : Value), us[j]? = some u → ∃ ad, a = some ad ∧ w.cell? (ad.add j) = some u := fun j u hj => by
    obtain ⟨ad2, e2, hst⟩ := h5 j u hj
    exact ⟨ad2, e2, hst.2.1⟩
  obtain ⟨own, ho⟩ := hr.ex
  obtain ⟨v0, us0, f1, f2, f3, f4, f5⟩ := ho.obj t _ hσ
  have hvv : v0 = v := by
    have := h6 t rfl
    rw [hn, f1] at this
    injection this
  subst hvv
  have hall3 : ∀ x ∈ xs ++ ys, x.cells.length = sz := fun x hx => by
    rcases zQ2.1 hx with h | h
    · exact h3 x h
    · exact k3 x h
  have hallone : ∀ u ∈ us ++ us', u.oneCell' = true := fun u hu => by
    rcases zQ2.1 hu with h | h
    · exact hone0 u h
    · exact hone u h
  have hfl : flat (xs ++ ys) = flat xs ++ flat ys := flat_append xs ys
  have hlenx : (xs ++ ys).length = n + ys.length := by rw [zE, hn]
  have fresh_case : ∀ (cap : Nat) (rest : Array Value), n + ys.length ≤ cap → cap ≤ maxLen → rest.size = (cap - (n + ys.length)) * sz →
      Gets g w K (.slice (some ⟨w.heap.size, 0, none⟩) (n + ys.length) cap) (w.drew.alloc (.cells (us.toArray ++ us'.toArray ++ rest) e)) := by
    intro cap rest hcap hcm hrest
    have harr : us.toArray ++ us'.toArray ++ rest = (us ++ us' ++ rest.toList).toArray := by
      apply Array.ext'
      simp
    rw [harr]
    have hr1 := hr.drew
    have l1 := Le.drew g w
    have l2 := Le.alloc_stab hr1 (.cells (us ++ us' ++ rest.toList).toArray e) ((n + ys.length) * sz)
    have r2 := hr1.alloc_stab (.cells (us ++ us' ++ rest.toList).toArray e) ((n + ys.length) * sz)
    generalize hg1 : g.stab w.drew.heap.size ((n + ys.length) * sz) = g1 at l2 r2
    generalize hw1 : w.drew.alloc (.cells (us ++ us' ++ rest.toList).toArray e) = w1 at l2 r2
    have ho1 : Owns g1 σ w1 own := by
      refine ho.keep (l1.trans l2) (fun id b e => ?_) (fun _ _ => by rw [← hg1]; rfl)
      have hlt := (ho.lt id b e).2.2
      rw [← hg1, ← hw1]
      refine ⟨Below.heap_alloc w.drew _ b hlt, ?_⟩
      simp only [Gh.stab]
      exact if_neg (Nat.ne_of_lt hlt)
    have l3 : Le g1 w1 (g1.log t (n + ys.length) (.slice (some ⟨w.heap.size, 0, none⟩) (n + ys.length) cap)) w1 := by
      refine ⟨⟨rfl, rfl, fun _ _ h => ⟨h, rfl⟩, fun _ _ h => h, fun s k u hv => ?_, Nat.le_refl _⟩, fun _ _ h => h⟩
      simp only [Gh.log]
      rw [if_neg]
      · exact hv
      · rintro ⟨rfl, rfl⟩
        have : g1.lg s (n + ys.length) = g.lg s (n + ys.length) := by rw [← hg1]; rfl
        rw [this, f5 _ (by omega)] at hv
        cases hv
    have hheap : w1.heap[w.heap.size]? = some (.cells (us ++ us' ++ rest.toList).toArray e (0, 0)) := by rw [← hw1]; exact heap_new w.drew _
    have hsz : w1.heap.size = w.heap.size + 1 := by rw [← hw1]; simp
    have hcurlen : (us ++ us' ++ rest.toList).length = cap * sz := by
      simp only [zE, hlen, hlen', hs, Array.length_toList, hrest]
      rw [← Nat.add_mul, ← Nat.add_mul]
      congr 1
      omega
    have hlall : (us ++ us').length = (n + ys.length) * sz := by rw [zE, hlen, hlen', hs, Nat.add_mul]
    have lall := l1.trans (l2.trans l3)
    refine ⟨_, _, g1.log t (n + ys.length) (.slice (some ⟨w.heap.size, 0, none⟩) (n + ys.length) cap), hK, ?_, ?_, lall⟩
    · refine Rel.row_set r2 hσ ho1 l3 r2.below r2.fresh V (fun id k hid => ?_) (fun id b hid hb => Vv) (ob := some w.heap.size) ?_ (fun id b hid hb e => ?_) (fun b hb => ?_)
      · simp only [Gh.log]; rw [if_neg (fun h => hid h.1)]
      · refine ⟨.slice (some ⟨w.heap.size, 0, none⟩) (n + ys.length) cap, us ++ us', by simp [Gh.log], ?_, rfl, fun b hb => ?_, fun k hk => ?_⟩
        · refine ⟨hlall, .inr ⟨w.heap.size, cap, _, rfl, ?_, hheap, hcap, hcm, by simpa using hcurlen, ?_⟩⟩
          · have : (g1.log t (n + ys.length) (.slice (some ⟨w.heap.size, 0, none⟩) (n + ys.length) cap)).B = g.B := lall.B
            rw [this]
            exact hr.size
          · rw [← hlall]
            exact List.take_left
        · injection hb with hb
          subst hb
          rw [← hg1]
          simp only [Gh.log, Gh.stab]
          exact if_pos rfl
        · simp only [Gh.log]
          rw [if_neg (by omega), ← hg1]
          exact f5 k (by omega)
      · have := (ho.lt id b hb).2.2
        injection e with e
        omega
      · injection hb with hb
        subst hb
        refine ⟨?_, by omega⟩
        rw [← hg1]
        exact hr.size
    · refine .lst' hlenx hcap hcm hall3 (us := us ++ us') ?_ (fun j u hj => ⟨⟨w.heap.size, 0, none⟩, rfl, ?_⟩) (fun s hs => ?_)
      · rw [hfl]
        exact (h4.mono lall).append (k4.mono lall)
      · have hjl : j < (us ++ us').length := (zD.1 hj).1
        refine ⟨?_, ?_, hallone u (zW hj)⟩
        · rw [zH4]
          show 0 + j < (g1.log t _ _).st w.heap.size
          rw [← hg1]
          simp only [Gh.log, Gh.stab]
          have : (if w.heap.size = w.drew.heap.size then (n + ys.length) * sz else g.st w.heap.size) = (n + ys.length) * sz := if_pos rfl
          rw [this]
          omega
        · rw [zH4]
          simp only [World.cell?, hheap]
          simp only [Nat.zero_add, Option.isSome_none, Bool.false_eq_true, if_false]
          rw [List.getElem?_toArray, List.getElem?_append_left hjl]
          exact hj
      · injection hs with hs
        subst hs
        simp [Gh.log]
  rcases f2.2 with ⟨hv0, hn0⟩ | ⟨b, cap, cur, hv0, hbB, hheap, hnc, hcm, hcs, htake⟩
  ·
    rw [hv0] at hv
    injection hv with ea en ec
    subst hv0
    have hus : us = [] := List.eq_nil_of_length_eq_zero (by rw [hlen, hn0]; simp)
    have hrun := run_append_nil_string (P := P) w tt tu ty' e i z hu hut hi hz (bs l) (by omega) (by omega) (by rw [hb, hbl0]; rw [hn0] at hbound; simp only [Nat.zero_add] at hbound; omega)
    rw [hbl0, show Array.map (fun b : UInt8 => Value.int .u8 (b.toNat : Int)) (bs l).data = us'.toArray by rw [hus']; apply Array.ext'; simp [Lib.strCells]] at hrun
    have hfc := fresh_case (grownCap w ys.length 0 e) (Builtin.zeroCells z.cells (grownCap w ys.length 0 e - ys.length)) (by rw [hn0, Nat.zero_add]; exact grownCap_ge w _ _ _) (grownCap_le_maxLen w _ _ _ (by rw [hn0] at hsmall; omega)) (by rw [size_zeroCells, hzs, hn0]; simp)
    rw [hus, hn0] at hfc
    simp only [Nat.zero_add, Array.empty_append] at hfc
    refine ⟨_, _, hrun, ?_⟩
    have e1 : #[] ++ us'.toArray = us'.toArray := Array.empty_append
    exact hfc
  · have hvb : a = some ⟨b, 0, none⟩ ∧ c = cap := by
      rw [hv0] at hv
      injection hv with e1 e2 e3
      exact ⟨e1.symm, e3.symm⟩
    obtain ⟨rfl, rfl⟩ := hvb
    have holds' : ∀ (j : Nat) (u : Value), us[j]? = some u → w.cell? ((⟨b, 0, none⟩ : Addr).add j) = some u := fun j u hj => by
      obtain ⟨ad2, e2, h⟩ := holds j u hj
      injection e2 with e2
      subst e2
      exact h
    by_cases hroom : n + ys.length ≤ c
    ·
      have hfit : n * i.size + us'.length ≤ cur.size := by rw [hlen', hcs, hs, ← Nat.add_mul]; exact Nat.mul_le_mul_right _ hroom
      have hul : us'.length = ys.length := by rw [hlen', hs, hsz1, Nat.mul_one]
      have hrun := Lib.run_append_room_string (P := P) w tt tu ty' e i hu hut hi (by rw [hs, hsz1]) b n c cur hheap (bs l) (by omega) (by rw [hs, hsz1] at hfit; omega)
      rw [hbl0, ← hus', show n = n * i.size by rw [hs, hsz1, Nat.mul_one], show ys.length = us'.length from hul.symm] at hrun
      rw [show n * i.size = n by rw [hs, hsz1, Nat.mul_one], hul] at hrun
      have hncl : n * i.size = n := by rw [hs, hsz1, Nat.mul_one]
      generalize hnc' : (cur.toList.take n ++ us' ++ cur.toList.drop (n + ys.length)).toArray = ncur at hrun
      rw [show cur.toList.take n ++ us' ++ cur.toList.drop (n + ys.length) = cur.toList.take (n * i.size) ++ us' ++ cur.toList.drop (n * i.size + us'.length) by rw [hncl, hul]] at hnc'
      have hob : own t = some b := by rw [← f3, hv0]; rfl
      have hstb : g.st b = n * sz := f4 b hob
      have hbl := ho.lt t b hob
      have hus0 : us0 = us := by
        have e1 : us0 = cur.toList.take (n * sz) := htake.symm
        apply List.ext_getElem?
        intro j
        by_cases hj : j < n * sz
        · have hjl : j < us.length := by rw [hlen, hs]; exact hj
          have hc := holds' j us[j] (zC hjl)
          rw [zH4] at hc
          simp only [World.cell?, hheap, Nat.zero_add, Option.isSome_none, Bool.false_eq_true, if_false] at hc
          rw [e1, List.getElem?_take, if_pos hj, zC hjl, ← hc]
          simp
        · rw [List.getElem?_eq_none (by rw [f2.1]; omega), List.getElem?_eq_none (by rw [hlen, hs]; omega)]
      subst hus0
      have hheap' : (w.setRow b ncur).heap[b]? = some (.cells ncur e (0, 0)) := setRow_heap w b cur ncur e _ hheap
      have hother : ∀ k, k ≠ b → (w.setRow b ncur).heap[k]? = w.heap[k]? := fun k hk => setRow_other w b k ncur hk
      have hncur : ncur.toList = us0 ++ us' ++ cur.toList.drop ((n + ys.length) * sz) := by
        rw [← hnc', hs, htake, hlen', hs, ← Nat.add_mul]
      have hlall : (us0 ++ us').length = (n + ys.length) * sz := by rw [zE, hlen, hlen', hs, Nat.add_mul]
      have hcell : ∀ j, j < (n + ys.length) * sz → (w.setRow b ncur).cell? ⟨b, j, none⟩ = (us0 ++ us')[j]? := fun j hj => by
        simp only [World.cell?, hheap', Option.isSome_none, Bool.false_eq_true, if_false]
        rw [← Array.getElem?_toList, hncur, List.getElem?_append_left (by omega)]
      let g1 : Gh := (g.stab b ((n + ys.length) * sz)).log t (n + ys.length) (.slice (some ⟨b, 0, none⟩) (n + ys.length) c)
      have hlall2 : n * sz ≤ (n + ys.length) * sz := Nat.mul_le_mul_right _ (by omega)
      have hl : Le g w g1 (w.setRow b ncur) := by
        refine ⟨⟨rfl, rfl, fun k j hj => ?_, fun _ _ h => h, fun s k u hu => ?_, by simp⟩, fun k x hx => ?_⟩
        · by_cases ek : k = b
          · subst ek
            refine ⟨?_, ?_⟩
            · show j < if k = k then (n + ys.length) * sz else g.st k
              rw [if_pos rfl]
              omega
            · rw [hstb] at hj
              rw [hcell j (by omega), List.getElem?_append_left (by rw [hlen, hs]; exact hj)]
              have hjl : j < us0.length := by rw [hlen, hs]; exact hj
              have := holds' j us0[j] (zC hjl)
              rw [zH4, Nat.zero_add] at this
              rw [this, zC hjl]
          · refine ⟨?_, World.cell?_of_block (w := w) (a := ⟨k, j, none⟩) (hother k ek)⟩
            show j < if k = b then (n + ys.length) * sz else g.st k
            rw [if_neg ek]
            exact hj
        · show (if s = t ∧ k = n + ys.length then _ else g.lg s k) = _
          rw [if_neg]
          · exact hu
          · rintro ⟨rfl, rfl⟩
            rw [f5 _ (by omega)] at hu
            cases hu
        · have : k ≠ b := fun e => by subst e; rw [hheap] at hx; cases hx
          exact (hother k this).trans hx
      refine ⟨_, _, by rw [hv0]; exact hrun, _, _, g1, hK, ?_, ?_, hl⟩
      · refine Rel.row_set hr hσ ho hl (hr.below.trans ⟨rfl, rfl, rfl, by simp, fun k hk => hother k (by omega)⟩) (fun k hk => ?_) V (fun id k hid => ?_) (fun id k hid hk => ?_) (ob := some b) ?_ (fun id k hid hk e => ?_) (fun k hk => ?_)
        · simp only [setRow_size] at hk
          show (if k = b then _ else g.st k) = 0
          rw [if_neg (by omega)]
          exact hr.fresh k hk
        · show (if id = t ∧ k = n + ys.length then _ else g.lg id k) = _
          rw [if_neg (fun h => hid h.1)]
        · have hkb : k ≠ b := fun e => by subst e; exact hid (ho.inj _ _ _ hk hob)
          refine ⟨hother k hkb, ?_⟩
          show (if k = b then _ else g.st k) = _
          rw [if_neg hkb]
        · refine ⟨.slice (some ⟨b, 0, none⟩) (n + ys.length) c, us0 ++ us', ?_, ⟨hlall, .inr ⟨b, c, ncur, rfl, hbB, hheap', hroom, hcm, ?_, ?_⟩⟩, rfl, fun k hk => ?_, fun k hk => ?_⟩
          · show (if t = t ∧ n + ys.length = n + ys.length then _ else _) = _
            rw [if_pos ⟨rfl, rfl⟩]
          · have hcl : cur.toList.length = c * sz := by rw [Array.length_toList, hcs]
            have : (n + ys.length) * sz ≤ c * sz := Nat.mul_le_mul_right _ hroom
            rw [← Array.length_toList, hncur, zE, hlall, List.length_drop, hcl]
            omega
          · rw [hncur, ← hlall, zO, ← zO us0 us']
            exact List.take_left
          · injection hk with hk
            subst hk
            show (if b = b then _ else _) = _
            rw [if_pos rfl]
          · show (if t = t ∧ k = n + ys.length then _ else g.lg t k) = none
            rw [if_neg (by omega)]
            exact f5 k (by omega)
        · injection e with e
          subst e
          exact hid (ho.inj _ _ _ hk hob)
        · injection hk with hk
          subst hk
          exact ⟨hbl.2.1, by simpa using hbl.2.2⟩
      · refine .lst' hlenx hroom hcm hall3 (us := us0 ++ us') ?_ (fun j u hj => ⟨⟨b, 0, none⟩, rfl, ?_⟩) (fun s hs => ?_)
        · rw [hfl]
          exact (h4.mono hl).append (k4.mono hl)
        · have hjl : j < (us0 ++ us').length := (zD.1 hj).1
          refine ⟨?_, ?_, hallone u (zW hj)⟩
          · rw [zH4]
            show 0 + j < if b = b then (n + ys.length) * sz else g.st b
            rw [if_pos rfl]
            omega
          · rw [zH4, Nat.zero_add, hcell j (by omega)]
            exact hj
        · injection hs with hs
          subst hs
          show (if t = t ∧ n + ys.length = n + ys.length then _ else _) = _
          rw [if_pos ⟨rfl, rfl⟩]
    ·
      have hrun := Lib.run_append_grow_string (P := P) w tt tu ty' e i z hu hut hi hz ⟨b, 0, none⟩ n c us hlen holds' (bs l) (by omega) (by omega) (growslice_fits (by omega) (by rw [hb, hbl0]; exact hbound))
      rw [hbl0, ← hus'] at hrun
      refine ⟨_, _, by rw [hv0]; exact hrun, fresh_case _ _ (grownCap_ge w _ _ _) (grownCap_le_maxLen w _ _ _ hsmall) (by rw [size_zeroCells, hzs])⟩
theorem op_appendS {t u e bytes id n : Nat} {x y : Operand} {xs : List MV} {l : Bs} (ho : o.op = .call { callee := .builtin .append, args := #[x, y], argTypes := #[t, u] }) (hu : P.underlying t = some (.slice e)) (hut : P.underlying u = some .string) (he : elemOk P e 1 bytes = true)
  (hx : evo env x = some (.lst (some id) 1 xs)) (hy : evo env y = some (.str (bs l))) (hσ : σ[id]? = some (.row e 1 n)) (hn : xs.length = n) (hb : (n + l.length) * bytes ≤ 140737488355328) (hml : n + l.length ≤ 4611686018427387904)
  (hK : K (.lst (some id) 1 (xs ++ l.map encY)) (σ.set id (.row e 1 (n + l.length)))) : OpWp P rd o env σ K := by
 refine OpWp.of_run (by simp [ho]) fun g w a hr hop => ?_
 have hv := (hop y (by simp [ho, Op.operands, Call.operands]) _ hy).inv_str
 obtain ⟨v', w', hrun, hg⟩ := gets_appendS (ty' := o.type) hr rfl hu hut he hσ (ys := l.map encY) rfl (hop x (by simp [ho, Op.operands, Call.operands]) _ hx) hn (by simpa using hb) (by simpa using hml) (by simpa using hK)
 refine ⟨v', w', ?_, hg⟩
 simp [execOp, ho, resolve, invoke, builtin, hv, hrun]
end
end
section
section
variable {P : Program} {rd : Option Nat} {o : Oper} {env : Env} {σ : MS} {K : MV → MS → Prop}
theorem Rel.pin {g : Gh} {w : World} (hr : Rel g σ w) {t e n b c : Nat} {l : Bs} (hl : l ≠ []) (hσ : σ[t]? = some (.row e 1 n)) (hn : l.length = n) (hlg : g.lg t n = some (.slice (some ⟨b, 0, none⟩) n c)) (hcell : ∀ j x, l[j]? = some x → w.cell? ⟨b, j, none⟩ = some (.int .u8 (x.toNat : Int))) :
  Rel (g.bind σ.length b) (σ.set t .gone ++ [.pin e l]) w ∧ Le g w (g.bind σ.length b) w := by
 have hle : Le g w (g.bind σ.length b) w := by
  refine ⟨⟨rfl, rfl, fun _ _ h => ⟨h, rfl⟩, fun i b' h => ?_, fun _ _ _ h => h, Nat.le_refl _⟩, fun _ _ h => h⟩
  simp only [Gh.bind]
  rw [if_neg]
  ·exact h
  ·rintro rfl
   rw [hr.bkn _ (Nat.le_refl _)] at h
   cases h
 obtain ⟨own, ho⟩ := hr.ex
 have htl : t < σ.length := (zD.1 hσ).1
 obtain ⟨v0, us0, f1, f2, f3, f4, f5⟩ := ho.obj t _ hσ
 rw [hlg] at f1
 injection f1 with f1
 subst f1
 have hob : own t = some b := f3.symm
 rcases f2.2 with ⟨hv0, _⟩ | ⟨b', cap, cur, hv0, hbB, hheap, hnc, hcm, hcs, htake⟩
 ·cases hv0
 injection hv0 with e1 e2 e3
 injection e1 with e1
 injection e1 with e1
 subst e1
 refine ⟨⟨hr.below, hr.base, hr.fresh, fun i hi => ?_, fun s k hs => hr.lgn s k (by simp at hs; omega), fun i => if i = t then none else if i = σ.length then some b else own i, ⟨fun i ob hi => ?_, fun i j d hi hj => ?_, fun i d hi => ?_⟩⟩, hle⟩
 ·simp at hi
  simp only [Gh.bind]
  rw [if_neg (by omega)]
  exact hr.bkn i (by omega)
 ·by_cases hil : i < σ.length
  ·rw [List.getElem?_append_left (by simpa using hil)] at hi
   by_cases e : i = t
   ·subst e
    rw [List.getElem?_set_self htl] at hi
    injection hi with hi
    subst hi
    simp [ObjRel]
   ·rw [if_neg e, if_neg (by omega)]
    rw [List.getElem?_set_ne (fun h => e h.symm)] at hi
    exact (ho.obj i ob hi).keep0 hle.toLe0 (fun _ _ => ⟨rfl, rfl⟩) (fun _ => rfl)
  ·have hi2 : i = σ.length := by
    have := (zD.1 hi).1
    simp at this
    omega
   subst hi2
   rw [List.getElem?_append_right (by simp)] at hi
   simp at hi
   subst hi
   rw [if_neg (by omega), if_pos rfl]
   refine ⟨b, cur, rfl, by simp [Gh.bind], ?_, hheap, by rw [hcs, hn]; omega, fun j x hj => ?_⟩
   ·show g.st b = l.length
    rw [f4 b hob, hn, Nat.mul_one]
   ·have := hcell j x hj
    simpa [World.cell?, hheap] using this
 ·by_cases ei : i = t
  ·rw [if_pos ei] at hi; cases hi
  ·by_cases ej : j = t
   ·rw [if_pos ej] at hj; cases hj
   ·rw [if_neg ei] at hi
    rw [if_neg ej] at hj
    by_cases fi : i = σ.length
    ·by_cases fj : j = σ.length
     ·omega
     ·rw [if_pos fi] at hi
      rw [if_neg fj] at hj
      injection hi with hi
      subst hi
      exact absurd (ho.inj _ _ _ hj hob) ej
    ·by_cases fj : j = σ.length
     ·rw [if_neg fi] at hi
      rw [if_pos fj] at hj
      injection hj with hj
      subst hj
      exact absurd (ho.inj _ _ _ hi hob) ei
     ·rw [if_neg fi] at hi
      rw [if_neg fj] at hj
      exact ho.inj i j d hi hj
 ·by_cases ei : i = t
  ·rw [if_pos ei] at hi; cases hi
  ·rw [if_neg ei] at hi
   by_cases fi : i = σ.length
   ·rw [if_pos fi] at hi
    injection hi with hi
    subst hi
    exact ⟨by simp; omega, (ho.lt t _ hob).2⟩
   ·rw [if_neg fi] at hi
    obtain ⟨h1, h2, h3⟩ := ho.lt i d hi
    exact ⟨by simp; omega, h2, h3⟩
theorem op_sliceData {u e id n : Nat} {x : Operand} {l : Bs} (ho : o.op = .call { callee := .builtin .unsafeSliceData, args := #[x], argTypes := #[u] }) (hx : evo env x = some (.lst (some id) 1 (l.map encY))) (hl : l ≠ []) (hσ : σ[id]? = some (.row e 1 n)) (hn : l.length = n)
  (hK : K (.ref σ.length 0) (σ.set id .gone ++ [.pin e l])) : OpWp P rd o env σ K := by
 refine OpWp.of_run (by simp [ho]) fun g w a hr hop => ?_
 obtain ⟨ad, c, us, hv, h1, h2, h3, h4, h5, h6⟩ := (hop x (by simp [ho, Op.operands, Call.operands]) _ hx).inv_lst
 have hpos : 0 < l.length := List.length_pos_iff.2 hl
 have hlg := h6 id rfl
 obtain ⟨own, hown⟩ := hr.ex
 obtain ⟨v0, us0, f1, f2, f3, f4, f5⟩ := hown.obj id _ hσ
 rw [zF, hn] at hlg
 rw [f1] at hlg
 injection hlg with hlg
 rcases f2.2 with ⟨hv0, hn0⟩ | ⟨b, cap, cur, hv0, hbB, hheap, hnc, hcm, hcs, htake⟩
 ·omega
 have hv1 : Value.slice ad (l.map encY).length c = .slice (some ⟨b, 0, none⟩) n cap := by rw [← hv, ← hlg, hv0]
 injection hv1 with e1 e2 e3
 subst e1 e3
 have hrds : us = l.map fun c => Value.int .u8 (c.toNat : Int) := by
  rw [flat_encY] at h4
  rw [us_bytes h4, List.map_map]
  rfl
 obtain ⟨hr', hle⟩ := hr.pin hl hσ hn (by rw [f1, hv0]) (fun j x hj => by
  obtain ⟨ad2, q1, q2⟩ := h5 j (.int .u8 (x.toNat : Int)) (by rw [hrds, zI0, hj]; rfl)
  injection q1 with q1
  subst q1
  have := q2.2.1
  simpa [zH4] using this)
 refine ⟨.pointer (some ⟨b, 0, none⟩), w, ?_, ⟨_, _, _, hK, hr', .ref _ _ _ (by simp [Gh.bind]), hle⟩⟩
 rw [zF] at hv h1
 have hrun := fun ts ty => Lib.run_unsafeSliceData_row (P := P) w ts ty ⟨b, 0, none⟩ l.length c (by omega)
 simp [execOp, ho, resolve, invoke, builtin, hv, hrun]
theorem freeze_cell {w : World} {b n : Nat} (p : Addr) : (w.freeze ⟨b, 0, none⟩ n).cell? p = w.cell? p := by
 unfold World.freeze
 split
 ·rfl
 ·unfold World.cell?
  simp only [Array.getElem?_modify]
  by_cases e : b = p.block
  ·subst e
   rw [if_pos rfl]
   cases w.heap[p.block]? with
   | none => rfl
   | some ob => cases ob <;> rfl
  ·rw [if_neg e]
theorem freeze_other {w : World} {b n k : Nat} (h : k ≠ b) : (w.freeze ⟨b, 0, none⟩ n).heap[k]? = w.heap[k]? := by
 unfold World.freeze
 split
 ·rfl
 ·simp only [Array.getElem?_modify]
  rw [if_neg (fun e => h e.symm)]
theorem freeze_size {w : World} {b n : Nat} : (w.freeze ⟨b, 0, none⟩ n).heap.size = w.heap.size := by
 unfold World.freeze
 split
 ·rfl
 ·simp
theorem op_unsafeString {t t' e id : Nat} {x y : Operand} {l : Bs} {m : Int} (ho : o.op = .call { callee := .builtin .unsafeString, args := #[x, y], argTypes := #[t, t'] }) (hu : P.underlying t = some (.pointer e)) (hc : P.cellsOf e = 1) (hx : evo env x = some (.ref id 0)) (hy : evo env y = some (.int .i64 m)) (hm : m = (l.length : Int)) (hl : l ≠ []) (hlen : l.length ≤ maxLen) (hσ : σ[id]? = some (.pin e l))
  (hK : K (.str (bs l)) (σ.set id .gone)) : OpWp P rd o env σ K := by
 subst hm
 refine OpWp.of_run (by simp [ho]) fun g w a hr hop => ?_
 obtain ⟨b', hb', hv⟩ := (hop x (by simp [ho, Op.operands, Call.operands]) _ hx).inv_ref
 have hv2 := (hop y (by simp [ho, Op.operands, Call.operands]) _ hy).inv_int
 obtain ⟨own, hown⟩ := hr.ex
 obtain ⟨b, cur, e1, e2, e3, e4, e5, e6⟩ := hown.obj _ _ hσ
 rw [hb'] at e2
 injection e2 with e2
 subst e2
 have hrun := fun ty => Lib.run_unsafeString_row (P := P) w t t' ty e hu hc b' cur.size (by simp [World.shape?, e4]) l hl e5 (by simp only [maxLen] at hlen; omega) (fun j x hj => by
  rw [zH4, Nat.zero_add]
  simp [World.cell?, e4, e6 j x hj])
 have hle : Le g w g (w.freeze ⟨b', 0, none⟩ l.length) := by
  refine ⟨⟨rfl, rfl, fun c i hi => ⟨hi, freeze_cell _⟩, fun _ _ h => h, fun _ _ _ h => h, by rw [freeze_size]; exact Nat.le_refl _⟩, fun c q hq => ?_⟩
  rw [freeze_other]
  ·exact hq
  ·rintro rfl
   rw [e4] at hq
   cases hq
 refine ⟨.string (bs l), _, ?_, ⟨_, _, g, hK, ?_, .str _, hle⟩⟩
 ·simp [execOp, ho, resolve, invoke, builtin, hv, hv2, hrun]
  rfl
 ·have hB := (hown.lt id b' e1).2.1
  refine ⟨?_, hr.base, fun c hc => hr.fresh c (by rw [freeze_size] at hc; exact hc), fun i hi => hr.bkn i (by simpa using hi), fun s q hs => hr.lgn s q (by simpa using hs), fun i => if i = id then none else own i, ⟨fun i ob hi => ?_, fun i j c hi hj => ?_, fun i c hi => ?_⟩⟩
  ·exact Lib.below_freeze hr.below (p := ⟨b', 0, none⟩) hB _
  ·by_cases ei : i = id
   ·subst ei
    rw [List.getElem?_set, if_pos rfl] at hi
    split at hi
    ·injection hi with hi
     subst hi
     simp [ObjRel]
    ·cases hi
   ·rw [if_neg ei]
    rw [List.getElem?_set_ne (fun h => ei h.symm)] at hi
    refine (hown.obj i ob hi).keep0 hle.toLe0 (fun c hc => ⟨freeze_other ?_, rfl⟩) (fun _ => V)
    rintro rfl
    exact ei (hown.inj _ _ _ hc e1)
  ·split at hi
   ·cases hi
   ·split at hj
    ·cases hj
    ·exact hown.inj i j c hi hj
  ·split at hi
   ·cases hi
   ·obtain ⟨h1, h2, h3⟩ := hown.lt i c hi
    exact ⟨by simpa using h1, h2, by rw [freeze_size]; exact h3⟩
end
end
end Go.MV
