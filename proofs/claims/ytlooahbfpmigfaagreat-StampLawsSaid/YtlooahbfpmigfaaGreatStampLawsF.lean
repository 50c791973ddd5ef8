/-
  Texts on which the proof of StampLaws leans: part 6.
-/
import Derived.Test.YtlooahbfpmigfaaGreatStampLawsE
import Derived.Deep.Slices
import Derived.ChangeSame
import Derived.ProofKit
import Derived.OpenShut
import Derived.ChangeOld
import Derived.SizedLaws
import Derived.Carry
section
set_option linter.unusedVariables false
set_option linter.unusedSimpArgs false
set_option maxRecDepth 20000
set_option maxHeartbeats 400000
namespace Go.Proofs.YtlooahbfpmigfaaGreat
open Go Go.MV
def encSo (p : Bool × Int) : MV := .agg [.bool p.1, .int .i64 p.2]
def firstE : List (Bool × Int) → MV
 | [] => .iface0
 | p :: l => if p.1 = true then encErr p.2 else firstE l
theorem cl_firstE (n : Nat) : ∀ l : List (Bool × Int), Cl n (firstE l)
 | [] => .iface0
 | p :: l => by
  rw [firstE]
  split
  ·exact .iface _ _ (.int _ _)
  ·exact cl_firstE n l
theorem drop_cons_at {α : Type} {l : List α} {i : Nat} {x : α} (h : l[i]? = some x) : l.drop i = x :: l.drop (i + 1) := by
 obtain ⟨hlt, e⟩ := List.getElem?_eq_some_iff.1 h
 rw [List.drop_eq_getElem_cons hlt, e]
theorem first_yes {l : List (Bool × Int)} {i : Nat} {e : Int} (h : l[i]? = some (true, e)) (hd : firstE l = firstE (l.drop i)) : firstE l = encErr e := by rw [hd, drop_cons_at h, firstE, if_pos rfl]
theorem first_no_ {l : List (Bool × Int)} {i : Nat} {e : Int} (h : l[i]? = some (false, e)) (hd : firstE l = firstE (l.drop i)) : firstE l = firstE (l.drop (i + 1)) := by rw [hd, drop_cons_at h, firstE, if_neg (by simp)]
noncomputable def laterVF (a b : Val) : Bool := match joinVF (.mk 6 []) a b with | .ok j => decide (j = a) && !decide (a = b) | .error _ => false
noncomputable def nextVF (a : Val) (w : Int) (t : Bs) : Except Int Val :=
 if (!isLV a || decide (w < 0)) = true then .error 14 else if 16 < t.length then .error 13 else if IntKind.u64.wrap (a.nv + 1) = 0 then .error 15 else .ok (.mk (IntKind.u64.wrap (a.nv + 1)) (IntKind.u64.wrap w) [t] [] [])
theorem next_first (n m : Int) (s : List Bs) (c : List (List Tk)) (v : List Val) (w : Int) (t : Bs) : firstE [(!isLV (.mk n m s c v) || decide (w < 0), 14), (decide ((16 : Int) < (t.length : Int)), 13), (IntKind.u64.wrap (n + 1) == 0, 15)] = match nextVF (.mk n m s c v) w t with | .error e => encErr e | .ok _ => .iface0 := by
 unfold nextVF
 by_cases h1 : (!isLV (.mk n m s c v) || decide (w < 0)) = true
 ·rw [if_pos h1, firstE, if_pos h1]
 ·rw [if_neg h1, firstE, if_neg h1, firstE]
  by_cases h2 : 16 < t.length
  ·rw [if_pos h2, if_pos (by simp; omega)]
  ·rw [if_neg h2, if_neg (by simp; omega), firstE]
   by_cases h3 : IntKind.u64.wrap ((Val.mk n m s c v).nv + 1) = 0
   ·rw [if_pos h3, if_pos (by simpa [Val.nv] using h3)]
   ·rw [if_neg h3, if_neg (by simpa [Val.nv] using h3)]
    rfl
theorem next_ok {n m : Int} {s : List Bs} {c : List (List Tk)} {v : List Val} {w : Int} {t : Bs} {r : Val} (h : nextVF (.mk n m s c v) w t = .ok r) : r = .mk (IntKind.u64.wrap (n + 1)) (IntKind.u64.wrap w) [t] [] [] := by
 unfold nextVF at h
 split at h
 ·cases h
 ·split at h
  ·cases h
  ·split at h
   ·cases h
   ·injection h with h; exact h.symm
theorem sLast_spec (S : MS) : MCalls Tryz.prog 48 [] S fun v σ' => v = encS (.mk 6 []) ∧ σ' = S := by
 refine mcalls_body Tryz.func48 rfl Tryz.ntmps48 (Nat.le_of_ble_eq_true rfl) ?_
 refine mwp_seq <| qR rfl <| qO rfl <| op_alloc' rfl zm37 rfl rfl <| qN <| mwp_seq <| qR rfl <| qO rfl <| op_build rfl Tryz.underlying37 zm37 (.cons fo37_0 sz3 rfl rfl (Nat.le_of_ble_eq_true rfl) .nil) (by kernel_rfl) ?_
 refine qO rfl <| op_store' rfl rfl rfl rfl sz37 rfl rfl (Nat.le_of_ble_eq_true rfl) rfl <| qN <| mwp_ret ?_
 exact ret_cell (y := encS (.mk 6 [])) (.inr rfl) Tryz.results48 rfl rfl ta37 rfl (.agg (.cons (.refl _) (.cons (.nil 2) .nil))) (cl_encS _ _) ⟨rfl, rfl⟩
theorem rLast_spec (S : MS) : MCalls Tryz.prog 29 [] S fun v σ' => v = encS (.mk 6 []) ∧ σ' = S := by
 refine mcalls_body Tryz.func29 rfl Tryz.ntmps29 (Nat.le_of_ble_eq_true rfl) ?_
 refine mwp_seq <| qR rfl <| qO rfl <| op_alloc' rfl zm37 rfl rfl <| qN <| mwp_seq <| qR rfl <| qO rfl <| op_build rfl Tryz.underlying37 zm37 (.cons fo37_0 sz3 rfl rfl (Nat.le_of_ble_eq_true rfl) .nil) (by kernel_rfl) ?_
 refine qO rfl <| op_store' rfl rfl rfl rfl sz37 rfl rfl (Nat.le_of_ble_eq_true rfl) rfl <| qN <| mwp_ret ?_
 exact ret_cell (y := encS (.mk 6 [])) (.inr rfl) Tryz.results29 rfl rfl ta37 rfl (.agg (.cons (.refl _) (.cons (.nil 2) .nil))) (cl_encS _ _) ⟨rfl, rfl⟩
theorem level6_spec (S : MS) : MCalls Tryz.prog 47 [encS (.mk 6 [])] S fun v σ' => v = .int .i64 2 ∧ σ' = S := by
 refine mcalls_body Tryz.func47 rfl Tryz.ntmps47 (Nat.le_of_ble_eq_true rfl) ?_
 refine mwp_seq <| qR rfl <| qB rfl rfl rfl rfl rfl <| qA rfl rfl rfl <| qN <| mwp_seq <| mwp_block <| mwp_seq <| qR rfl <| qL rfl rfl rfl rfl ta37 rfl ?_
 refine wOps_op rfl (op_call rfl rfl rfl co55 ((Is_spec (.mk 6 []) _).mono ?_))
 rintro _ _ ⟨rfl, rfl⟩
 refine qO rfl <| op_not rfl rfl <| qA rfl rfl rfl <| qN <| mwp_cond_f rfl (by rw [show isF 16 (.mk 6 []) = true by decide]; rfl) ?_
 refine mwp_seq <| qR rfl <| qF rfl rfl rfl fo37_0 <| qL rfl rfl rfl rfl ta3 rfl <| qC rfl rfl rfl rfl rfl <| qA rfl rfl rfl <| qN <| mwp_cond_t rfl (rfl) <| mwp_seq <| qR rfl <| qA rfl rfl rfl <| qN <| mwp_ret ?_
 exact ret_tmp (.inr rfl) Tryz.results47 rfl (.of_eq (rfl)) (.int _ _) ⟨rfl, rfl⟩
theorem stampIs_spec (x : Val) (hv : okV x) (S : MS) : MCalls Tryz.prog 24 [encV x] S fun v σ' => v = .bool (isLV x) ∧ σ' = S := by
 obtain ⟨n1, m1, s1, c1, w1⟩ := x
 refine mcalls_body Tryz.func24 rfl Tryz.ntmps24 (Nat.le_of_ble_eq_true rfl) ?_
 refine mwp_seq <| qR rfl <| qB rfl rfl rfl rfl rfl <| qA rfl rfl rfl <| qN <| mwp_seq ?_
 refine mwp_draw [] [_] mo (by decide) rfl rfl rfl rfl ?_
 refine dOps_op rfl rfl (.cons (op_call rfl rfl rfl co48 (sLast_spec _)) .nil) <| dOps_op rfl rfl (.cons (op_call rfl rfl rfl co47 (level6_spec _)) .nil) <| dO rfl rfl rfl (op_cmp rfl rfl rfl (eqlI rfl) ⟨rfl, rfl⟩) <| dO rfl rfl rfl (op_move rfl rfl ⟨rfl, rfl⟩) <| dOps_op rfl rfl (.cons (op_call rfl rfl rfl co48 (sLast_spec _)) .nil) <| dO rfl rfl rfl (op_load' rfl rfl rfl ta29 rfl ⟨rfl, rfl⟩) <| dOps_op rfl rfl (.cons (op_call rfl rfl rfl co49 (valIs_spec (.mk 6 []) (.mk n1 m1 s1 c1 w1) hv _)) .nil) <| dO rfl rfl rfl (op_pick rfl rfl rfl ⟨rfl, rfl⟩) <| dO rfl rfl rfl (op_assign rfl rfl ⟨rfl, rfl⟩) <| dOps_nil <| mwp_ret ?_
 exact ret_tmp (.inr rfl) Tryz.results24 rfl (.of_eq (by unfold isLV; rw [show isF 16 (.mk 6 []) = true by decide, Bool.true_and])) (.bool _) ⟨rfl, rfl⟩
theorem first_spec (l : List (Bool × Int)) (S : MS) : MCalls Tryz.prog 52 [.lst none 2 (l.map encSo)] S fun v σ' => v = firstE l ∧ σ' = S := by
 refine mcalls_body Tryz.func52 rfl Tryz.ntmps52 (Nat.le_of_ble_eq_true rfl) ?_
 refine mwp_len (t := 0) rfl fun hlen => ?_
 rw [List.length_map] at hlen
 refine mwp_seq <| qR rfl <| qA rfl rfl rfl <| qN <| mwp_seq <| mwp_seq <| qR rfl <| qM rfl rfl rfl <| qE rfl rfl Tryz.underlying104 rfl <| qM rfl rfl rfl <| qN <| mwp_block ?_
 refine mwp_loopKJ (α := Nat) [(5, _), (6, _)] (fun i => [(7, .int .i64 (i : Int))]) (fun i => []) (fun i => i ≤ l.length ∧ firstE l = firstE (l.drop i)) (fun i => l.length - i) (0) (Nat.le_refl _) (.keep rfl (.keep rfl (.nil))) (.keep rfl (.nil)) (⟨by omega, rfl⟩) (rfl) ?_
 rintro i ⟨hi, hfd⟩
 refine mwp_seq <| qR rfl <| qC rfl rfl rfl rfl rfl <| qN <| mwp_seq ?_
 refine mwp_cond_split rfl (fun h8 => ?_) (fun h8 => ?_)
 ·
  have hlt : i < l.length := by simpa using h8
  obtain ⟨⟨sb, se⟩, hs⟩ : ∃ q_, l[i]? = some q_ := ⟨_, List.getElem?_eq_getElem hlt⟩
  refine mwp_skip <| mwp_seq <| mwp_block <| mwp_seq <| qR rfl <| qO rfl <| op_indexAddr rfl Tryz.underlying104 sz82 (by decide) rfl rfl rfl (get_map hs) ?_
  refine qO rfl <| op_load_sptr rfl rfl ta82 rfl <| qO rfl <| op_alloc' rfl zm82 rfl rfl <| qO rfl <| op_store' rfl rfl rfl rfl sz82 rfl rfl (Nat.le_of_ble_eq_true rfl) rfl <| qN <| mwp_seq <| qR rfl <| qF rfl rfl rfl fo82_0 <| qL rfl rfl rfl rfl ta4 rfl <| qN ?_
  refine mwp_cond_split rfl (fun h12 => ?_) (fun h12 => ?_)
  ·
   have hsb : sb = true := h12
   subst hsb
   refine mwp_seq <| qR rfl <| qF rfl rfl rfl fo82_1 <| qL rfl rfl rfl rfl ta62 rfl <| qO rfl <| op_makeInterface rfl rfl Tryz.underlying62 (by simp) ?_
   refine qA rfl rfl rfl <| qN <| mwp_ret ?_
   exact ret_tmp (.inr rfl) Tryz.results52 rfl (.of_eq ((first_yes hs hfd).symm)) (cl_firstE _ _) ⟨rfl, rfl⟩
  ·
   have hsb : sb = false := h12
   subst hsb
   refine mwp_skip <| qR rfl <| qO rfl <| op_arith rfl rfl rfl rfl <| qM rfl rfl rfl <| qN ?_
   refine ⟨i + 1, _, by omega, ⟨by omega, first_no_ hs hfd⟩, rfl, .nil, (.old rfl rfl (.old rfl rfl (.nil))), (.new' rfl (int_succ hlt hlen) (.int _ _) (.nil))⟩
 ·
  have hge : i = l.length := by simp at h8; omega
  refine mwp_exit <| mwp_seq <| qR rfl <| qA rfl rfl rfl <| qN <| mwp_ret ?_
  exact ret_tmp (.inr rfl) Tryz.results52 rfl (.of_eq (by rw [hfd, hge, List.drop_length]; rfl)) (cl_firstE _ _) ⟨rfl, rfl⟩
theorem stampNext_spec (a : Val) (w : Int) (t : Bs) (ha : okV a) (S : MS) : MCalls Tryz.prog 27 [encV a, .int .i64 w, encX t] S fun v σ' => v = encJ (nextVF a w t) ∧ σ' = S := by
 obtain ⟨n1, m1, s1, c1, w1⟩ := a
 refine mcalls_body Tryz.func27 rfl Tryz.ntmps27 (Nat.le_of_ble_eq_true rfl) ?_
 refine mwp_seq <| qR rfl <| qB rfl rfl rfl rfl rfl <| qO rfl <| op_alloc' rfl zm29 rfl rfl <| qA rfl rfl rfl <| qN <| mwp_seq <| mwp_seq ?_
 have hfirst := first_spec [(!isLV (.mk n1 m1 s1 c1 w1) || decide (w < 0), 14), (decide ((16 : Int) < (t.length : Int)), 13), (IntKind.u64.wrap (n1 + 1) == 0, 15)]
 rw [next_first] at hfirst
 rcases exE (nextVF (.mk n1 m1 s1 c1 w1) w t) with ⟨e, hn⟩ | ⟨v, hn⟩ <;> rw [hn] at hfirst
 ·
  refine mwp_draw [] [_] mo (by decide) rfl rfl rfl rfl ?_
  refine dO rfl rfl rfl (op_load' rfl rfl rfl ta29 rfl ⟨rfl, rfl⟩) <| dOps_op rfl rfl (.cons (op_call rfl rfl rfl co24 (stampIs_spec (.mk n1 m1 s1 c1 w1) ha _)) .nil) <| dO rfl rfl rfl (op_not rfl rfl ⟨rfl, rfl⟩) <| dO rfl rfl rfl (op_move rfl rfl ⟨rfl, rfl⟩) ?_
  refine dOps_case (fun h12 => ?_) (fun h12 => ?_)
  ·
   rw [show (!isLV (.mk n1 m1 s1 c1 w1) || decide (w < 0)) = true from by rw [h12]; rfl] at hfirst
   refine dS rfl rfl <| dS rfl rfl <| dO rfl rfl rfl (op_pick rfl rfl rfl ⟨rfl, rfl⟩) <| dO rfl rfl rfl (op_build rfl Tryz.underlying82 zm82 (.cons fo82_0 sz4 rfl rfl (Nat.le_of_ble_eq_true rfl) (.cons fo82_1 sz62 rfl rfl (Nat.le_of_ble_eq_true rfl) .nil)) (by kernel_rfl) ⟨rfl, rfl⟩) ?_
   refine dO rfl rfl rfl (op_move rfl rfl ⟨rfl, rfl⟩) <| dO rfl rfl rfl (op_len_bs rfl Tryz.underlying9 rfl ⟨rfl, rfl⟩) <| dO rfl rfl rfl (op_cmp rfl rfl rfl rfl ⟨rfl, rfl⟩) <| dO rfl rfl rfl (op_build rfl Tryz.underlying82 zm82 (.cons fo82_0 sz4 rfl rfl (Nat.le_of_ble_eq_true rfl) (.cons fo82_1 sz62 rfl rfl (Nat.le_of_ble_eq_true rfl) .nil)) (by kernel_rfl) ⟨rfl, rfl⟩) ?_
   refine dO rfl rfl rfl (op_fieldAddr_ref rfl rfl fo29_0 ⟨rfl, rfl⟩) <| dO rfl rfl rfl (op_load' rfl rfl rfl ta24 rfl ⟨rfl, rfl⟩) <| dO rfl rfl rfl (op_arith rfl rfl rfl rfl ⟨rfl, rfl⟩) <| dO rfl rfl rfl (op_cmp rfl rfl rfl rfl ⟨rfl, rfl⟩) <| dO rfl rfl rfl (op_build rfl Tryz.underlying82 zm82 (.cons fo82_0 sz4 rfl rfl (Nat.le_of_ble_eq_true rfl) (.cons fo82_1 sz62 rfl rfl (Nat.le_of_ble_eq_true rfl) .nil)) (by kernel_rfl) ⟨rfl, rfl⟩) ?_
   refine dO rfl rfl rfl (op_buildSlice rfl Tryz.underlying104 el82 rfl rfl (by decide) (by decide) rfl rfl ⟨rfl, rfl⟩) ?_
   refine dOps_op rfl rfl (.cons (op_call rfl rfl rfl co52 (hfirst _)) .nil) <| dO rfl rfl rfl (op_assign rfl rfl ⟨rfl, rfl⟩) <| dOps_nil <| mwp_seq <| qR rfl <| qM rfl rfl rfl <| qO rfl <| op_ifnil rfl Tryz.underlying32 rfl rfl (.inr ⟨rfl, rfl⟩) <| qN <| mwp_cond_t rfl (rfl) <| mwp_seq <| qR rfl <| qO rfl <| op_build rfl Tryz.underlying29 zm29 .nil (by kernel_rfl) ?_
   refine qM rfl rfl rfl <| qO rfl <| op_store' rfl rfl rfl rfl sz29 rfl rfl (Nat.le_of_ble_eq_true rfl) rfl <| qA rfl rfl rfl <| qN <| mwp_ret ?_
   exact ret_cell_tmp (.inr rfl) Tryz.results27 rfl rfl ta29 rfl (.agg (.cons (.refl _) (.cons (.refl _) (.cons (.nil 1) (.cons (.nil 1) (.cons (.nil 5) .nil)))))) (cl_encV _ (noV)) rfl (.refl _) (.iface _ _ (.int _ _)) ⟨by rw [hn]; rfl, rfl⟩
  ·
   rw [show (!isLV (.mk n1 m1 s1 c1 w1) || decide (w < 0)) = decide (w < 0) from by rw [h12]; rfl] at hfirst
   refine dO rfl rfl rfl (op_move rfl rfl ⟨rfl, rfl⟩) <| dO rfl rfl rfl (op_cmp rfl rfl rfl rfl ⟨rfl, rfl⟩) <| dO rfl rfl rfl (op_pick rfl rfl rfl ⟨rfl, rfl⟩) <| dO rfl rfl rfl (op_build rfl Tryz.underlying82 zm82 (.cons fo82_0 sz4 rfl rfl (Nat.le_of_ble_eq_true rfl) (.cons fo82_1 sz62 rfl rfl (Nat.le_of_ble_eq_true rfl) .nil)) (by kernel_rfl) ⟨rfl, rfl⟩) ?_
   refine dO rfl rfl rfl (op_move rfl rfl ⟨rfl, rfl⟩) <| dO rfl rfl rfl (op_len_bs rfl Tryz.underlying9 rfl ⟨rfl, rfl⟩) <| dO rfl rfl rfl (op_cmp rfl rfl rfl rfl ⟨rfl, rfl⟩) <| dO rfl rfl rfl (op_build rfl Tryz.underlying82 zm82 (.cons fo82_0 sz4 rfl rfl (Nat.le_of_ble_eq_true rfl) (.cons fo82_1 sz62 rfl rfl (Nat.le_of_ble_eq_true rfl) .nil)) (by kernel_rfl) ⟨rfl, rfl⟩) ?_
   refine dO rfl rfl rfl (op_fieldAddr_ref rfl rfl fo29_0 ⟨rfl, rfl⟩) <| dO rfl rfl rfl (op_load' rfl rfl rfl ta24 rfl ⟨rfl, rfl⟩) <| dO rfl rfl rfl (op_arith rfl rfl rfl rfl ⟨rfl, rfl⟩) <| dO rfl rfl rfl (op_cmp rfl rfl rfl rfl ⟨rfl, rfl⟩) <| dO rfl rfl rfl (op_build rfl Tryz.underlying82 zm82 (.cons fo82_0 sz4 rfl rfl (Nat.le_of_ble_eq_true rfl) (.cons fo82_1 sz62 rfl rfl (Nat.le_of_ble_eq_true rfl) .nil)) (by kernel_rfl) ⟨rfl, rfl⟩) ?_
   refine dO rfl rfl rfl (op_buildSlice rfl Tryz.underlying104 el82 rfl rfl (by decide) (by decide) rfl rfl ⟨rfl, rfl⟩) ?_
   refine dOps_op rfl rfl (.cons (op_call rfl rfl rfl co52 (hfirst _)) .nil) <| dO rfl rfl rfl (op_assign rfl rfl ⟨rfl, rfl⟩) <| dOps_nil <| mwp_seq <| qR rfl <| qM rfl rfl rfl <| qO rfl <| op_ifnil rfl Tryz.underlying32 rfl rfl (.inr ⟨rfl, rfl⟩) <| qN <| mwp_cond_t rfl (rfl) <| mwp_seq <| qR rfl <| qO rfl <| op_build rfl Tryz.underlying29 zm29 .nil (by kernel_rfl) ?_
   refine qM rfl rfl rfl <| qO rfl <| op_store' rfl rfl rfl rfl sz29 rfl rfl (Nat.le_of_ble_eq_true rfl) rfl <| qA rfl rfl rfl <| qN <| mwp_ret ?_
   exact ret_cell_tmp (.inr rfl) Tryz.results27 rfl rfl ta29 rfl (.agg (.cons (.refl _) (.cons (.refl _) (.cons (.nil 1) (.cons (.nil 1) (.cons (.nil 5) .nil)))))) (cl_encV _ (noV)) rfl (.refl _) (.iface _ _ (.int _ _)) ⟨by rw [hn]; rfl, rfl⟩
 ·
  refine mwp_draw [] [_] mo (by decide) rfl rfl rfl rfl ?_
  refine dO rfl rfl rfl (op_load' rfl rfl rfl ta29 rfl ⟨rfl, rfl⟩) <| dOps_op rfl rfl (.cons (op_call rfl rfl rfl co24 (stampIs_spec (.mk n1 m1 s1 c1 w1) ha _)) .nil) <| dO rfl rfl rfl (op_not rfl rfl ⟨rfl, rfl⟩) <| dO rfl rfl rfl (op_move rfl rfl ⟨rfl, rfl⟩) ?_
  refine dOps_case (fun h12 => ?_) (fun h12 => ?_)
  ·
   rw [show (!isLV (.mk n1 m1 s1 c1 w1) || decide (w < 0)) = true from by rw [h12]; rfl] at hfirst
   refine dS rfl rfl <| dS rfl rfl <| dO rfl rfl rfl (op_pick rfl rfl rfl ⟨rfl, rfl⟩) <| dO rfl rfl rfl (op_build rfl Tryz.underlying82 zm82 (.cons fo82_0 sz4 rfl rfl (Nat.le_of_ble_eq_true rfl) (.cons fo82_1 sz62 rfl rfl (Nat.le_of_ble_eq_true rfl) .nil)) (by kernel_rfl) ⟨rfl, rfl⟩) ?_
   refine dO rfl rfl rfl (op_move rfl rfl ⟨rfl, rfl⟩) <| dO rfl rfl rfl (op_len_bs rfl Tryz.underlying9 rfl ⟨rfl, rfl⟩) <| dO rfl rfl rfl (op_cmp rfl rfl rfl rfl ⟨rfl, rfl⟩) <| dO rfl rfl rfl (op_build rfl Tryz.underlying82 zm82 (.cons fo82_0 sz4 rfl rfl (Nat.le_of_ble_eq_true rfl) (.cons fo82_1 sz62 rfl rfl (Nat.le_of_ble_eq_true rfl) .nil)) (by kernel_rfl) ⟨rfl, rfl⟩) ?_
   refine dO rfl rfl rfl (op_fieldAddr_ref rfl rfl fo29_0 ⟨rfl, rfl⟩) <| dO rfl rfl rfl (op_load' rfl rfl rfl ta24 rfl ⟨rfl, rfl⟩) <| dO rfl rfl rfl (op_arith rfl rfl rfl rfl ⟨rfl, rfl⟩) <| dO rfl rfl rfl (op_cmp rfl rfl rfl rfl ⟨rfl, rfl⟩) <| dO rfl rfl rfl (op_build rfl Tryz.underlying82 zm82 (.cons fo82_0 sz4 rfl rfl (Nat.le_of_ble_eq_true rfl) (.cons fo82_1 sz62 rfl rfl (Nat.le_of_ble_eq_true rfl) .nil)) (by kernel_rfl) ⟨rfl, rfl⟩) ?_
   refine dO rfl rfl rfl (op_buildSlice rfl Tryz.underlying104 el82 rfl rfl (by decide) (by decide) rfl rfl ⟨rfl, rfl⟩) ?_
   refine dOps_op rfl rfl (.cons (op_call rfl rfl rfl co52 (hfirst _)) .nil) <| dO rfl rfl rfl (op_assign rfl rfl ⟨rfl, rfl⟩) <| dOps_nil <| mwp_seq <| qR rfl <| qM rfl rfl rfl <| qO rfl <| op_if0 rfl Tryz.underlying32 rfl rfl (.inr ⟨rfl, rfl⟩) <| qN <| mwp_cond_f rfl (rfl) <| mwp_skip <| mwp_seq <| qR rfl <| qF rfl rfl rfl fo29_0 <| qL rfl rfl rfl rfl ta24 rfl <| qO rfl <| op_arith rfl rfl rfl rfl <| qM rfl rfl rfl <| qO rfl <| op_convInt rfl Tryz.underlying3 Tryz.underlying24 rfl rfl <| qM rfl rfl rfl <| qO rfl <| op_buildSlice rfl Tryz.underlying25 el9 rfl rfl (by decide) (by decide) rfl rfl ?_
   refine qO rfl <| op_build rfl Tryz.underlying29 zm29 (.cons fo29_0 sz24 rfl rfl (Nat.le_of_ble_eq_true rfl) (.cons fo29_1 sz24 rfl rfl (Nat.le_of_ble_eq_true rfl) (.cons fo29_2 sz25 rfl rfl (Nat.le_of_ble_eq_true rfl) .nil))) (by kernel_rfl) ?_
   refine qO rfl <| op_store' rfl rfl rfl rfl sz29 rfl rfl (Nat.le_of_ble_eq_true rfl) rfl <| qA rfl rfl rfl <| qN <| mwp_ret ?_
   exact ret_cell_tmp (.inr rfl) Tryz.results27 rfl rfl ta29 rfl (.agg (.cons (.refl _) (.cons (.refl _) (.cons (.refl _) (.cons (.nil 1) (.cons (.nil 5) .nil)))))) (cl_encV _ (.mk (IntKind.u64.wrap (n1 + 1)) (IntKind.u64.wrap w) [t] [] [])) rfl (.refl _) (.iface0) ⟨by rw [hn, next_ok hn]; rfl, rfl⟩
  ·
   rw [show (!isLV (.mk n1 m1 s1 c1 w1) || decide (w < 0)) = decide (w < 0) from by rw [h12]; rfl] at hfirst
   refine dO rfl rfl rfl (op_move rfl rfl ⟨rfl, rfl⟩) <| dO rfl rfl rfl (op_cmp rfl rfl rfl rfl ⟨rfl, rfl⟩) <| dO rfl rfl rfl (op_pick rfl rfl rfl ⟨rfl, rfl⟩) <| dO rfl rfl rfl (op_build rfl Tryz.underlying82 zm82 (.cons fo82_0 sz4 rfl rfl (Nat.le_of_ble_eq_true rfl) (.cons fo82_1 sz62 rfl rfl (Nat.le_of_ble_eq_true rfl) .nil)) (by kernel_rfl) ⟨rfl, rfl⟩) ?_
   refine dO rfl rfl rfl (op_move rfl rfl ⟨rfl, rfl⟩) <| dO rfl rfl rfl (op_len_bs rfl Tryz.underlying9 rfl ⟨rfl, rfl⟩) <| dO rfl rfl rfl (op_cmp rfl rfl rfl rfl ⟨rfl, rfl⟩) <| dO rfl rfl rfl (op_build rfl Tryz.underlying82 zm82 (.cons fo82_0 sz4 rfl rfl (Nat.le_of_ble_eq_true rfl) (.cons fo82_1 sz62 rfl rfl (Nat.le_of_ble_eq_true rfl) .nil)) (by kernel_rfl) ⟨rfl, rfl⟩) ?_
   refine dO rfl rfl rfl (op_fieldAddr_ref rfl rfl fo29_0 ⟨rfl, rfl⟩) <| dO rfl rfl rfl (op_load' rfl rfl rfl ta24 rfl ⟨rfl, rfl⟩) <| dO rfl rfl rfl (op_arith rfl rfl rfl rfl ⟨rfl, rfl⟩) <| dO rfl rfl rfl (op_cmp rfl rfl rfl rfl ⟨rfl, rfl⟩) <| dO rfl rfl rfl (op_build rfl Tryz.underlying82 zm82 (.cons fo82_0 sz4 rfl rfl (Nat.le_of_ble_eq_true rfl) (.cons fo82_1 sz62 rfl rfl (Nat.le_of_ble_eq_true rfl) .nil)) (by kernel_rfl) ⟨rfl, rfl⟩) ?_
   refine dO rfl rfl rfl (op_buildSlice rfl Tryz.underlying104 el82 rfl rfl (by decide) (by decide) rfl rfl ⟨rfl, rfl⟩) ?_
   refine dOps_op rfl rfl (.cons (op_call rfl rfl rfl co52 (hfirst _)) .nil) <| dO rfl rfl rfl (op_assign rfl rfl ⟨rfl, rfl⟩) <| dOps_nil <| mwp_seq <| qR rfl <| qM rfl rfl rfl <| qO rfl <| op_if0 rfl Tryz.underlying32 rfl rfl (.inr ⟨rfl, rfl⟩) <| qN <| mwp_cond_f rfl (rfl) <| mwp_skip <| mwp_seq <| qR rfl <| qF rfl rfl rfl fo29_0 <| qL rfl rfl rfl rfl ta24 rfl <| qO rfl <| op_arith rfl rfl rfl rfl <| qM rfl rfl rfl <| qO rfl <| op_convInt rfl Tryz.underlying3 Tryz.underlying24 rfl rfl <| qM rfl rfl rfl <| qO rfl <| op_buildSlice rfl Tryz.underlying25 el9 rfl rfl (by decide) (by decide) rfl rfl ?_
   refine qO rfl <| op_build rfl Tryz.underlying29 zm29 (.cons fo29_0 sz24 rfl rfl (Nat.le_of_ble_eq_true rfl) (.cons fo29_1 sz24 rfl rfl (Nat.le_of_ble_eq_true rfl) (.cons fo29_2 sz25 rfl rfl (Nat.le_of_ble_eq_true rfl) .nil))) (by kernel_rfl) ?_
   refine qO rfl <| op_store' rfl rfl rfl rfl sz29 rfl rfl (Nat.le_of_ble_eq_true rfl) rfl <| qA rfl rfl rfl <| qN <| mwp_ret ?_
   exact ret_cell_tmp (.inr rfl) Tryz.results27 rfl rfl ta29 rfl (.agg (.cons (.refl _) (.cons (.refl _) (.cons (.refl _) (.cons (.nil 1) (.cons (.nil 5) .nil)))))) (cl_encV _ (.mk (IntKind.u64.wrap (n1 + 1)) (IntKind.u64.wrap w) [t] [] [])) rfl (.refl _) (.iface0) ⟨by rw [hn, next_ok hn]; rfl, rfl⟩
end Go.Proofs.YtlooahbfpmigfaaGreat
end
section
set_option linter.unusedVariables false
set_option linter.unusedSimpArgs false
set_option maxRecDepth 20000
set_option maxHeartbeats 400000
namespace Go.Proofs.YtlooahbfpmigfaaGreat
open Go Go.MV
theorem stampLater_spec (a b : Val) (ha : okV a) (hb : okV b) (S : MS) : MCalls Tryz.prog 25 [encV a, encV b] S fun v σ' => v = .bool (laterVF a b) ∧ σ' = S := by
 obtain ⟨n1, m1, s1, c1, w1⟩ := a
 obtain ⟨n2, m2, s2, c2, w2⟩ := b
 refine mcalls_body Tryz.func25 rfl Tryz.ntmps25 (Nat.le_of_ble_eq_true rfl) ?_
 refine mwp_seq <| qR rfl <| qB rfl rfl rfl rfl rfl <| qB rfl rfl rfl rfl rfl <| qA rfl rfl rfl <| qN <| mwp_seq ?_
 have hof := join_spec (.mk 6 []) (.mk n1 m1 s1 c1 w1) (.mk n2 m2 s2 c2 w2) ha hb
 rcases joinR (.mk 6 []) (.mk n1 m1 s1 c1 w1) (.mk n2 m2 s2 c2 w2) with ⟨n3, m3, s3, c3, w3, hj⟩ | hj | hj <;> rw [hj] at hof
 ·
  refine mwp_draw [7, 8] [_, S ++ [.cells (encV (.mk n1 m1 s1 c1 w1)).cells, .cells (encV (.mk n2 m2 s2 c2 w2)).cells, .cells [.int .u64 0, .int .u64 0, .lst0, .lst0, .lst0]], S ++ [.cells (encV (.mk n1 m1 s1 c1 w1)).cells, .cells (encV (.mk n2 m2 s2 c2 w2)).cells, .cells (encV (.mk n3 m3 s3 c3 w3)).cells]] mo (by decide) rfl rfl rfl rfl ?_
  refine dOps_op rfl rfl (.cons (op_call rfl rfl rfl co48 (sLast_spec _)) (.cons (op_call rfl rfl rfl co48 (sLast_spec _)) (.nil))) <| dOps_op rfl rfl (.cons (op_load' rfl rfl rfl ta29 rfl ⟨rfl, rfl⟩) (.cons (op_load' rfl rfl rfl ta29 rfl ⟨rfl, rfl⟩) (.nil))) <| dOps_op rfl rfl (.cons (op_load' rfl rfl rfl ta29 rfl ⟨rfl, rfl⟩) (.cons (op_load' rfl rfl rfl ta29 rfl ⟨rfl, rfl⟩) (.nil))) <| dOps_op rfl rfl (.cons (op_call rfl rfl rfl co44 (hof _)) (.cons (op_call rfl rfl rfl co44 (hof _)) (.nil))) <| dOps_op rfl rfl (.cons (op_move rfl rfl ⟨rfl, rfl⟩) (.cons (op_move rfl rfl ⟨rfl, rfl⟩) (.nil))) <| dOps_op rfl rfl (.cons (op_extract rfl rfl rfl ⟨rfl, rfl⟩) (.cons (op_extract rfl rfl rfl ⟨rfl, rfl⟩) (.nil))) <| dOps_op rfl rfl (.cons (op_extract rfl rfl rfl ⟨rfl, rfl⟩) (.cons (op_extract rfl rfl rfl ⟨rfl, rfl⟩) (.cons (op_extract rfl rfl rfl ⟨rfl, rfl⟩) (.nil)))) <| dOps_eff rfl rfl rfl rfl (op_alloc' rfl zm29 rfl rfl ⟨rfl, rfl⟩) <| dOps_eff rfl rfl rfl rfl (op_store' rfl rfl rfl rfl sz29 rfl rfl (Nat.le_of_ble_eq_true rfl) rfl ⟨rfl, rfl⟩) <| dO rfl rfl rfl (op_assign rfl rfl ⟨rfl, rfl⟩) <| dOps_nil <| mwp_seq <| qR rfl <| qM rfl rfl rfl <| qO rfl <| op_if0 rfl Tryz.underlying32 rfl rfl (.inl ⟨rfl, rfl⟩) <| qM rfl rfl rfl <| qL rfl rfl rfl rfl ta29 rfl <| qL rfl rfl rfl rfl ta29 rfl ?_
  refine wOps_op rfl (op_call rfl rfl rfl co45 ((valSame_spec (.mk n3 m3 s3 c3 w3) (.mk n1 m1 s1 c1 w1) _).mono ?_))
  rintro _ _ ⟨rfl, rfl⟩
  refine qP rfl rfl rfl rfl <| qM rfl rfl rfl ?_
  refine wOps_case (fun h21 => ?_) (fun h21 => ?_)
  ·
   refine qL rfl rfl rfl rfl ta29 rfl <| qL rfl rfl rfl rfl ta29 rfl ?_
   refine wOps_op rfl (op_call rfl rfl rfl co45 ((valSame_spec (.mk n1 m1 s1 c1 w1) (.mk n2 m2 s2 c2 w2) _).mono ?_))
   rintro _ _ ⟨rfl, rfl⟩
   refine qO rfl <| op_not rfl rfl <| qP rfl rfl rfl rfl <| qA rfl rfl rfl <| qN <| mwp_ret ?_
   exact ret_tmp (.inr rfl) Tryz.results25 rfl (.of_eq (by unfold laterVF; rw [hj]; simp_all [Bool.and_comm])) (.bool _) ⟨rfl, rfl⟩
  ·
   refine qS rfl <| qS rfl <| qS rfl <| qS rfl <| qP rfl rfl rfl rfl <| qA rfl rfl rfl <| qN <| mwp_ret ?_
   exact ret_tmp (.inr rfl) Tryz.results25 rfl (.of_eq (by unfold laterVF; rw [hj]; simp_all [Bool.and_comm])) (.bool _) ⟨rfl, rfl⟩
 ·
  refine mwp_draw [7, 8] [_, S ++ [.cells (encV (.mk n1 m1 s1 c1 w1)).cells, .cells (encV (.mk n2 m2 s2 c2 w2)).cells, .cells [.int .u64 0, .int .u64 0, .lst0, .lst0, .lst0]], S ++ [.cells (encV (.mk n1 m1 s1 c1 w1)).cells, .cells (encV (.mk n2 m2 s2 c2 w2)).cells, .cells (encV noV).cells]] mo (by decide) rfl rfl rfl rfl ?_
  refine dOps_op rfl rfl (.cons (op_call rfl rfl rfl co48 (sLast_spec _)) (.cons (op_call rfl rfl rfl co48 (sLast_spec _)) (.nil))) <| dOps_op rfl rfl (.cons (op_load' rfl rfl rfl ta29 rfl ⟨rfl, rfl⟩) (.cons (op_load' rfl rfl rfl ta29 rfl ⟨rfl, rfl⟩) (.nil))) <| dOps_op rfl rfl (.cons (op_load' rfl rfl rfl ta29 rfl ⟨rfl, rfl⟩) (.cons (op_load' rfl rfl rfl ta29 rfl ⟨rfl, rfl⟩) (.nil))) <| dOps_op rfl rfl (.cons (op_call rfl rfl rfl co44 (hof _)) (.cons (op_call rfl rfl rfl co44 (hof _)) (.nil))) <| dOps_op rfl rfl (.cons (op_move rfl rfl ⟨rfl, rfl⟩) (.cons (op_move rfl rfl ⟨rfl, rfl⟩) (.nil))) <| dOps_op rfl rfl (.cons (op_extract rfl rfl rfl ⟨rfl, rfl⟩) (.cons (op_extract rfl rfl rfl ⟨rfl, rfl⟩) (.nil))) <| dOps_op rfl rfl (.cons (op_extract rfl rfl rfl ⟨rfl, rfl⟩) (.cons (op_extract rfl rfl rfl ⟨rfl, rfl⟩) (.cons (op_extract rfl rfl rfl ⟨rfl, rfl⟩) (.nil)))) <| dOps_eff rfl rfl rfl rfl (op_alloc' rfl zm29 rfl rfl ⟨rfl, rfl⟩) <| dOps_eff rfl rfl rfl rfl (op_store' rfl rfl rfl rfl sz29 rfl rfl (Nat.le_of_ble_eq_true rfl) rfl ⟨rfl, rfl⟩) <| dO rfl rfl rfl (op_assign rfl rfl ⟨rfl, rfl⟩) <| dOps_nil <| mwp_seq <| qR rfl <| qM rfl rfl rfl <| qO rfl <| op_ifnil rfl Tryz.underlying32 rfl rfl (.inl ⟨rfl, rfl⟩) <| qM rfl rfl rfl <| qS rfl <| qS rfl <| qS rfl <| qP rfl rfl rfl rfl <| qM rfl rfl rfl <| qS rfl <| qS rfl <| qS rfl <| qS rfl ?_
  refine qP rfl rfl rfl rfl <| qA rfl rfl rfl <| qN <| mwp_ret ?_
  exact ret_tmp (.inr rfl) Tryz.results25 rfl (.of_eq (by unfold laterVF; rw [hj])) (.bool _) ⟨rfl, rfl⟩
 ·
  refine mwp_draw [7, 8] [_, S ++ [.cells (encV (.mk n1 m1 s1 c1 w1)).cells, .cells (encV (.mk n2 m2 s2 c2 w2)).cells, .cells [.int .u64 0, .int .u64 0, .lst0, .lst0, .lst0]], S ++ [.cells (encV (.mk n1 m1 s1 c1 w1)).cells, .cells (encV (.mk n2 m2 s2 c2 w2)).cells, .cells (encV noV).cells]] mo (by decide) rfl rfl rfl rfl ?_
  refine dOps_op rfl rfl (.cons (op_call rfl rfl rfl co48 (sLast_spec _)) (.cons (op_call rfl rfl rfl co48 (sLast_spec _)) (.nil))) <| dOps_op rfl rfl (.cons (op_load' rfl rfl rfl ta29 rfl ⟨rfl, rfl⟩) (.cons (op_load' rfl rfl rfl ta29 rfl ⟨rfl, rfl⟩) (.nil))) <| dOps_op rfl rfl (.cons (op_load' rfl rfl rfl ta29 rfl ⟨rfl, rfl⟩) (.cons (op_load' rfl rfl rfl ta29 rfl ⟨rfl, rfl⟩) (.nil))) <| dOps_op rfl rfl (.cons (op_call rfl rfl rfl co44 (hof _)) (.cons (op_call rfl rfl rfl co44 (hof _)) (.nil))) <| dOps_op rfl rfl (.cons (op_move rfl rfl ⟨rfl, rfl⟩) (.cons (op_move rfl rfl ⟨rfl, rfl⟩) (.nil))) <| dOps_op rfl rfl (.cons (op_extract rfl rfl rfl ⟨rfl, rfl⟩) (.cons (op_extract rfl rfl rfl ⟨rfl, rfl⟩) (.nil))) <| dOps_op rfl rfl (.cons (op_extract rfl rfl rfl ⟨rfl, rfl⟩) (.cons (op_extract rfl rfl rfl ⟨rfl, rfl⟩) (.cons (op_extract rfl rfl rfl ⟨rfl, rfl⟩) (.nil)))) <| dOps_eff rfl rfl rfl rfl (op_alloc' rfl zm29 rfl rfl ⟨rfl, rfl⟩) <| dOps_eff rfl rfl rfl rfl (op_store' rfl rfl rfl rfl sz29 rfl rfl (Nat.le_of_ble_eq_true rfl) rfl ⟨rfl, rfl⟩) <| dO rfl rfl rfl (op_assign rfl rfl ⟨rfl, rfl⟩) <| dOps_nil <| mwp_seq <| qR rfl <| qM rfl rfl rfl <| qO rfl <| op_ifnil rfl Tryz.underlying32 rfl rfl (.inl ⟨rfl, rfl⟩) <| qM rfl rfl rfl <| qS rfl <| qS rfl <| qS rfl <| qP rfl rfl rfl rfl <| qM rfl rfl rfl <| qS rfl <| qS rfl <| qS rfl <| qS rfl ?_
  refine qP rfl rfl rfl rfl <| qA rfl rfl rfl <| qN <| mwp_ret ?_
  exact ret_tmp (.inr rfl) Tryz.results25 rfl (.of_eq (by unfold laterVF; rw [hj])) (.bool _) ⟨rfl, rfl⟩
theorem laterVF_eq {a b : Val} (ha : isLV a = true) (hb : isLV b = true) : laterVF a b = (decide (laterF a b = a) && !decide (a = b)) := by
 unfold laterVF
 rw [join_ok_of (by decide) ha hb (both_lv a b ha hb)]
theorem later_two {a b : Val} (ha : isLV a = true) (hb : isLV b = true) : (laterVF a b && laterVF b a) = false ∧ ((!laterVF a b && !laterVF b a) = decide (a = b)) := by
 rw [laterVF_eq ha hb, laterVF_eq hb ha, ← laterF_comm ha hb]
 by_cases h : a = b
 ·subst h; simp
 ·have h2 : ¬ b = a := fun e => h e.symm
  rcases laterF_or a b with e | e <;> simp [e, h, h2]
theorem isLV_t {n m : Int} (h : n ≠ 0) : isLV (.mk n m [[116]] [] []) = true := by
 unfold isLV
 rw [isVF_mk 6]
 simp [bareF, numsK, textsK, clocksK, valuesK, Val.nv, Val.mv, Val.sv, Val.cv, Val.vv, isLastF]
theorem later_next {a : Val} {w : Int} (ha : isLV a = true) (hn : 0 ≤ a.nv) : laterVF (.mk (a.nv + 1) w [[116]] [] []) a = true ∧ laterF a (.mk (a.nv + 1) w [[116]] [] []) = .mk (a.nv + 1) w [[116]] [] [] := by
 have hv : isLV (.mk (a.nv + 1) w [[116]] [] []) = true := isLV_t (by omega)
 have h1 : laterF a (.mk (a.nv + 1) w [[116]] [] []) = .mk (a.nv + 1) w [[116]] [] [] := by
  rcases lv_form ha with rfl | ⟨n, m, t, rfl, _, _⟩
  ·rfl
  ·exact laterF_yes _ _ _ _ _ _ (.inl (by simp only [Val.nv]; omega))
 refine ⟨?_, h1⟩
 rw [laterVF_eq hv ha, laterF_comm hv ha, h1]
 have h2 : ¬ Val.mk (a.nv + 1) w [[116]] [] [] = a := by
  intro e
  have : a.nv + 1 = a.nv := congrArg Val.nv e
  omega
 simp [h2]
theorem next_cases {a : Val} {w : Int} (ha : isLV a = true) (oa : okV a) (hw : 0 ≤ w ∧ w < 256) : (a.nv = 18446744073709551615 ∧ nextVF a w [116] = .error 15) ∨ (a.nv < 18446744073709551615 ∧ nextVF a w [116] = .ok (.mk (a.nv + 1) w [[116]] [] [])) := by
 have hb : 0 ≤ a.nv ∧ a.nv < 18446744073709551616 := by obtain ⟨n, m, s, c, v⟩ := a; exact (okV_mk.1 oa).1
 unfold nextVF
 rw [if_neg (by simp [ha]; omega), if_neg (by simp), u64_next hb]
 by_cases h : a.nv = 18446744073709551615
 ·rw [if_pos h, if_pos rfl]; exact .inl ⟨h, rfl⟩
 ·rw [if_neg h, if_neg (by omega), wrap_u64 (by omega)]; exact .inr ⟨by omega, rfl⟩
def sV : Val := .mk 1 7 [[97]] [] []
def sW : Val := .mk 2 3 [[98]] [] []
def sM : Val := .mk 18446744073709551615 0 [[120]] [] []
theorem lv_no : isLV noV = true := is_last0
theorem lv_sV : isLV sV = true := by unfold isLV sV; rw [isVF_mk 6]; rfl
theorem lv_sW : isLV sW = true := by unfold isLV sW; rw [isVF_mk 6]; rfl
theorem lv_sM : isLV sM = true := by unfold isLV sM; rw [isVF_mk 6]; rfl
theorem ks_1 : nextVF noV 7 [97] = .ok sV := by unfold nextVF; rw [lv_no]; rfl
theorem ks_2 : nextVF sV 3 [98] = .ok sW := by unfold nextVF; rw [lv_sV]; rfl
theorem ks_3 : nextVF (.mk 3 0 [] [] []) 1 [99] = .error 14 := by
 unfold nextVF
 rw [show isLV (.mk 3 0 [] [] []) = false by unfold isLV; rw [isVF_mk 6]; rfl]
 rfl
theorem ks_4 : nextVF sM 1 [99] = .error 15 := by unfold nextVF; rw [lv_sM]; rfl
theorem ks_5 : laterVF sW sV = true ∧ laterVF sV sW = false ∧ laterVF sV sV = false := by
 have h : laterF sW sV = sW := rfl
 have h2 : laterF sV sW = sW := rfl
 have hne : ¬ sW = sV := by simp [sW, sV]
 have hne2 : ¬ sV = sW := by simp [sW, sV]
 refine ⟨?_, ?_, ?_⟩
 ·rw [laterVF_eq lv_sW lv_sV, h]; simp [hne]
 ·rw [laterVF_eq lv_sV lv_sW, h2]; simp [hne]
 ·rw [laterVF_eq lv_sV lv_sV]; simp
theorem ok_ks : okV sV ∧ okV sW ∧ okV sM := by refine ⟨?_, ?_, ?_⟩ <;> simp [sV, sW, sM, okV, okVs]
theorem later_at {a b : Val} {r : Bool} (ha : okV a) (hb : okV b) (h : laterVF a b = r) (S : MS) : MCalls Tryz.prog 25 [encV a, encV b] S fun v σ' => v = .bool r ∧ σ' = S := h ▸ stampLater_spec a b ha hb S
theorem next_at {a : Val} {w : Int} {t : Bs} {r : Except Int Val} (ha : okV a) (h : nextVF a w t = r) (S : MS) : MCalls Tryz.prog 27 [encV a, .int .i64 w, encX t] S fun v σ' => v = encJ r ∧ σ' = S := h ▸ stampNext_spec a w t ha S
theorem isAt {a : Val} {r : Bool} (ha : okV a) (h : isLV a = r) (S : MS) : MCalls Tryz.prog 24 [encV a] S fun v σ' => v = .bool r ∧ σ' = S := h ▸ stampIs_spec a ha S
theorem rLater_spec (a b : Val) (S : MS) : MCalls Tryz.prog 79 [encV a, encV b] S fun v σ' => v = encV (laterF a b) ∧ σ' = S := by
 obtain ⟨n1, m1, s1, c1, w1⟩ := a
 obtain ⟨n2, m2, s2, c2, w2⟩ := b
 refine mcalls_body Tryz.func79 rfl Tryz.ntmps79 (Nat.le_of_ble_eq_true rfl) ?_
 refine mwp_seq <| qR rfl <| qB rfl rfl rfl rfl rfl <| qB rfl rfl rfl rfl rfl <| qO rfl <| op_alloc' rfl zm29 rfl rfl <| qN <| mwp_seq <| mwp_block <| mwp_seq ?_
 rcases s1 with _ | ⟨x, s1⟩
 rotate_left
 rcases s2 with _ | ⟨y, s2⟩
 rotate_left 2
 ·
  refine qR rfl <| qF rfl rfl rfl fo29_2 <| qL rfl rfl rfl rfl ta25 rfl <| qE rfl rfl Tryz.underlying25 rfl <| qC rfl rfl rfl rfl (eqlI rfl) <| qA rfl rfl rfl <| qN <| mwp_cond_t rfl (rfl) <| mwp_seq <| qR rfl <| qL rfl rfl rfl rfl ta29 rfl <| qO rfl <| op_store' rfl rfl rfl rfl sz29 rfl rfl (Nat.le_of_ble_eq_true rfl) rfl <| qN <| mwp_ret ?_
  exact ret_cell (y := encV (.mk n2 m2 s2 c2 w2)) (.inr rfl) Tryz.results79 rfl rfl ta29 rfl (.refl _) (cl_encV _ _) ⟨congrArg encV (if_pos (.inl rfl)).symm, rfl⟩
 ·
  refine qR rfl <| qF rfl rfl rfl fo29_2 <| qL rfl rfl rfl rfl ta25 rfl <| qE rfl rfl Tryz.underlying25 rfl <| qC rfl rfl rfl rfl (eq_cons) <| qA rfl rfl rfl <| qN <| mwp_cond_f rfl (rfl) <| mwp_seq <| qR rfl <| qF rfl rfl rfl fo29_2 <| qL rfl rfl rfl rfl ta25 rfl <| qE rfl rfl Tryz.underlying25 rfl <| qC rfl rfl rfl rfl (eqlI rfl) <| qA rfl rfl rfl <| qN <| mwp_cond_t rfl (rfl) <| mwp_seq <| qR rfl <| qL rfl rfl rfl rfl ta29 rfl ?_
  refine qO rfl <| op_store' rfl rfl rfl rfl sz29 rfl rfl (Nat.le_of_ble_eq_true rfl) rfl <| qN <| mwp_ret ?_
  exact ret_cell (y := encV (.mk n1 m1 (x :: s1) c1 w1)) (.inr rfl) Tryz.results79 rfl rfl ta29 rfl (.refl _) (cl_encV _ _) ⟨congrArg encV (if_neg (by simp [Val.sv])).symm, rfl⟩
 ·
  refine qR rfl <| qF rfl rfl rfl fo29_2 <| qL rfl rfl rfl rfl ta25 rfl <| qE rfl rfl Tryz.underlying25 rfl <| qC rfl rfl rfl rfl (eq_cons) <| qA rfl rfl rfl <| qN <| mwp_cond_f rfl (rfl) <| mwp_seq <| qR rfl <| qF rfl rfl rfl fo29_2 <| qL rfl rfl rfl rfl ta25 rfl <| qE rfl rfl Tryz.underlying25 rfl <| qC rfl rfl rfl rfl (eq_cons) <| qA rfl rfl rfl <| qN <| mwp_cond_f rfl (rfl) <| mwp_seq <| qR rfl <| qF rfl rfl rfl fo29_0 ?_
  refine qL rfl rfl rfl rfl ta24 rfl <| qF rfl rfl rfl fo29_0 <| qL rfl rfl rfl rfl ta24 rfl <| qC rfl rfl rfl rfl rfl <| qA rfl rfl rfl <| qN ?_
  refine mwp_cond_split rfl (fun h17 => ?_) (fun h17 => ?_)
  ·
   have q17 : n1 ≠ n2 := by simpa using h17
   refine mwp_seq <| mwp_seq <| qR rfl <| qF rfl rfl rfl fo29_0 <| qL rfl rfl rfl rfl ta24 rfl <| qF rfl rfl rfl fo29_0 <| qL rfl rfl rfl rfl ta24 rfl <| qC rfl rfl rfl rfl rfl <| qN ?_
   refine mwp_cond_split rfl (fun h27 => ?_) (fun h27 => ?_)
   ·
    have q27 := of_decide_eq_true h27
    refine mwp_seq <| qR rfl <| qL rfl rfl rfl rfl ta29 rfl <| qO rfl <| op_store' rfl rfl rfl rfl sz29 rfl rfl (Nat.le_of_ble_eq_true rfl) rfl <| qN <| mwp_ret ?_
    exact ret_cell (y := encV (.mk n1 m1 (x :: s1) c1 w1)) (.inr rfl) Tryz.results79 rfl rfl ta29 rfl (.refl _) (cl_encV _ _) ⟨congrArg encV (laterF_not _ _ _ _ _ _ (by unfold LT3; rintro (h | ⟨_, h | ⟨_, _⟩⟩) <;> omega)).symm, rfl⟩
   ·
    have q27 := of_decide_eq_false h27
    refine mwp_skip <| mwp_seq <| qR rfl <| qL rfl rfl rfl rfl ta29 rfl <| qO rfl <| op_store' rfl rfl rfl rfl sz29 rfl rfl (Nat.le_of_ble_eq_true rfl) rfl <| qN <| mwp_ret ?_
    exact ret_cell (y := encV (.mk n2 m2 (y :: s2) c2 w2)) (.inr rfl) Tryz.results79 rfl rfl ta29 rfl (.refl _) (cl_encV _ _) ⟨congrArg encV (laterF_yes _ _ _ _ _ _ (by unfold LT3; first | (left; omega) | (right; exact ⟨by omega, .inl (by omega)⟩))).symm, rfl⟩
  ·
   have q17 : n1 = n2 := by simpa using h17
   refine mwp_seq <| qR rfl <| qF rfl rfl rfl fo29_1 <| qL rfl rfl rfl rfl ta24 rfl <| qF rfl rfl rfl fo29_1 <| qL rfl rfl rfl rfl ta24 rfl <| qC rfl rfl rfl rfl rfl <| qA rfl rfl rfl <| qN ?_
   refine mwp_cond_split rfl (fun h30 => ?_) (fun h30 => ?_)
   ·
    have q30 : m1 ≠ m2 := by simpa using h30
    refine mwp_seq <| mwp_seq <| qR rfl <| qF rfl rfl rfl fo29_1 <| qL rfl rfl rfl rfl ta24 rfl <| qF rfl rfl rfl fo29_1 <| qL rfl rfl rfl rfl ta24 rfl <| qC rfl rfl rfl rfl rfl <| qN ?_
    refine mwp_cond_split rfl (fun h40 => ?_) (fun h40 => ?_)
    ·
     have q40 := of_decide_eq_true h40
     refine mwp_seq <| qR rfl <| qL rfl rfl rfl rfl ta29 rfl <| qO rfl <| op_store' rfl rfl rfl rfl sz29 rfl rfl (Nat.le_of_ble_eq_true rfl) rfl <| qN <| mwp_ret ?_
     exact ret_cell (y := encV (.mk n1 m1 (x :: s1) c1 w1)) (.inr rfl) Tryz.results79 rfl rfl ta29 rfl (.refl _) (cl_encV _ _) ⟨congrArg encV (laterF_not _ _ _ _ _ _ (by unfold LT3; rintro (h | ⟨_, h | ⟨_, _⟩⟩) <;> omega)).symm, rfl⟩
    ·
     have q40 := of_decide_eq_false h40
     refine mwp_skip <| mwp_seq <| qR rfl <| qL rfl rfl rfl rfl ta29 rfl <| qO rfl <| op_store' rfl rfl rfl rfl sz29 rfl rfl (Nat.le_of_ble_eq_true rfl) rfl <| qN <| mwp_ret ?_
     exact ret_cell (y := encV (.mk n2 m2 (y :: s2) c2 w2)) (.inr rfl) Tryz.results79 rfl rfl ta29 rfl (.refl _) (cl_encV _ _) ⟨congrArg encV (laterF_yes _ _ _ _ _ _ (by unfold LT3; first | (left; omega) | (right; exact ⟨by omega, .inl (by omega)⟩))).symm, rfl⟩
   ·
    have q30 : m1 = m2 := by simpa using h30
    refine mwp_seq ?_
    refine mwp_draw [] [_] mo (by decide) rfl rfl rfl rfl ?_
    refine dO rfl rfl rfl (op_fieldAddr_ref rfl rfl fo29_2 ⟨rfl, rfl⟩) <| dO rfl rfl rfl (op_load' rfl rfl rfl ta25 rfl ⟨rfl, rfl⟩) <| dO rfl rfl rfl (op_indexAddr rfl Tryz.underlying25 sz9 (by decide) rfl rfl rfl (show _ = some (encX x) from rfl) ⟨rfl, rfl⟩) ?_
    refine dO rfl rfl rfl (op_load_sptr rfl rfl ta9 rfl ⟨rfl, rfl⟩) <| dO rfl rfl rfl (op_fieldAddr_ref rfl rfl fo29_2 ⟨rfl, rfl⟩) <| dO rfl rfl rfl (op_load' rfl rfl rfl ta25 rfl ⟨rfl, rfl⟩) <| dO rfl rfl rfl (op_indexAddr rfl Tryz.underlying25 sz9 (by decide) rfl rfl rfl (show _ = some (encX y) from rfl) ⟨rfl, rfl⟩) ?_
    refine dO rfl rfl rfl (op_load_sptr rfl rfl ta9 rfl ⟨rfl, rfl⟩) <| dO rfl rfl rfl (op_strcmp rfl rfl rfl rfl ⟨rfl, rfl⟩) <| dO rfl rfl rfl (op_assign rfl rfl ⟨rfl, rfl⟩) <| dOps_nil ?_
    refine mwp_cond_split rfl (fun h43 => ?_) (fun h43 => ?_)
    ·
     have q52 : ¬ ltB x y := fun h => by rw [show Op.bytesLess x y = true from h] at h43; cases h43
     refine mwp_seq <| qR rfl <| qL rfl rfl rfl rfl ta29 rfl <| qO rfl <| op_store' rfl rfl rfl rfl sz29 rfl rfl (Nat.le_of_ble_eq_true rfl) rfl <| qN <| mwp_ret ?_
     exact ret_cell (y := encV (.mk n1 m1 (x :: s1) c1 w1)) (.inr rfl) Tryz.results79 rfl rfl ta29 rfl (.refl _) (cl_encV _ _) ⟨congrArg encV (laterF_not _ _ _ _ _ _ (by unfold LT3; rintro (h | ⟨_, h | ⟨_, h⟩⟩) <;> first | omega | exact q52 h)).symm, rfl⟩
    ·
     have q52 : ltB x y := by simpa [ltB] using h43
     refine mwp_skip <| mwp_seq <| qR rfl <| qL rfl rfl rfl rfl ta29 rfl <| qO rfl <| op_store' rfl rfl rfl rfl sz29 rfl rfl (Nat.le_of_ble_eq_true rfl) rfl <| qN <| mwp_ret ?_
     exact ret_cell (y := encV (.mk n2 m2 (y :: s2) c2 w2)) (.inr rfl) Tryz.results79 rfl rfl ta29 rfl (.refl _) (cl_encV _ _) ⟨congrArg encV (laterF_yes _ _ _ _ _ _ (by unfold LT3; first | (left; omega) | (right; refine ⟨by omega, ?_⟩; first | (left; omega) | (right; exact ⟨by omega, q52⟩)))).symm, rfl⟩
theorem rjoin6_spec (a b : Val) (S : MS) : MCalls Tryz.prog 53 [encS (.mk 6 []), encV a, encV b] S fun v σ' => v = .tup [encV (laterF a b), .bool true] ∧ σ' = S := by
 obtain ⟨n1, m1, s1, c1, w1⟩ := a
 obtain ⟨n2, m2, s2, c2, w2⟩ := b
 have hlat := rLater_spec (.mk n1 m1 s1 c1 w1) (.mk n2 m2 s2 c2 w2)
 obtain ⟨⟨n3, m3, s3, c3, w3⟩, h3⟩ : ∃ v, laterF (.mk n1 m1 s1 c1 w1) (.mk n2 m2 s2 c2 w2) = v := ⟨_, rfl⟩
 rw [h3] at hlat ⊢
 refine mcalls_body Tryz.func53 rfl Tryz.ntmps53 (Nat.le_of_ble_eq_true rfl) ?_
 refine mwp_seq <| qR rfl <| qB rfl rfl rfl rfl rfl <| qB rfl rfl rfl rfl rfl <| qB rfl rfl rfl rfl rfl <| qO rfl <| op_alloc' rfl zm29 rfl rfl <| qA rfl rfl rfl <| qN <| mwp_seq <| mwp_seq <| qR rfl <| qF rfl rfl rfl fo37_0 <| qL rfl rfl rfl rfl ta3 rfl <| qN <| mwp_block <| mwp_seq <| mwp_seq <| qR rfl <| qC rfl rfl rfl rfl (show _ = some false from rfl) <| qA rfl rfl rfl <| qN ?_
 refine mwp_cond_f rfl (rfl) <| qR rfl <| qC rfl rfl rfl rfl (show _ = some false from rfl) <| qA rfl rfl rfl <| qN <| mwp_cond_f rfl (rfl) <| mwp_seq <| qR rfl <| qC rfl rfl rfl rfl (show _ = some false from rfl) <| qA rfl rfl rfl <| qN <| mwp_cond_f rfl (rfl) <| mwp_seq <| qR rfl <| qC rfl rfl rfl rfl (show _ = some false from rfl) <| qA rfl rfl rfl <| qN <| mwp_cond_f rfl (rfl) <| mwp_seq <| qR rfl <| qC rfl rfl rfl rfl (show _ = some false from rfl) <| qA rfl rfl rfl ?_
 refine qN <| mwp_cond_f rfl (rfl) <| mwp_seq <| qR rfl <| qC rfl rfl rfl rfl (show _ = some true from rfl) <| qA rfl rfl rfl <| qN <| mwp_cond_t rfl (rfl) <| mwp_seq <| qR rfl <| qL rfl rfl rfl rfl ta29 rfl <| qL rfl rfl rfl rfl ta29 rfl ?_
 refine wOps_op rfl (op_call rfl rfl rfl co79 ((hlat _).mono ?_))
 rintro _ _ ⟨rfl, rfl⟩
 refine qO rfl <| op_store' rfl rfl rfl rfl sz29 rfl rfl (Nat.le_of_ble_eq_true rfl) rfl <| qA rfl rfl rfl <| qN <| mwp_ret ?_
 exact ret_cell_tmp (.inr rfl) Tryz.results53 rfl rfl ta29 rfl (.refl _) (cl_encV _ (.mk n3 m3 s3 c3 w3)) rfl (.refl _) (.bool _) ⟨rfl, rfl⟩
theorem rIsAt {a : Val} {r : Bool} (ha : okV a) (h : isLV a = r) (S : MS) : MCalls Tryz.prog 39 [encS (.mk 6 []), encV a] S fun v σ' => v = .bool r ∧ σ' = S := by
 have := rValIs_spec (.mk 6 []) a ha S
 rwa [show isF 16 (.mk 6 []) = true by decide, Bool.true_and, show isVF (.mk 6 []) a = r from h] at this
theorem rJoin6_spec (a b : Val) (ha : isLV a = true) (hb : isLV b = true) (oa : okV a) (ob : okV b) (S : MS) : MCalls Tryz.prog 28 [encS (.mk 6 []), encV a, encV b] S fun v σ' => v = .tup [encV (laterF a b), .int .i64 0] ∧ σ' = S := by
 obtain ⟨n1, m1, s1, c1, w1⟩ := a
 obtain ⟨n2, m2, s2, c2, w2⟩ := b
 have hlat := rjoin6_spec (.mk n1 m1 s1 c1 w1) (.mk n2 m2 s2 c2 w2)
 obtain ⟨⟨n3, m3, s3, c3, w3⟩, h3⟩ : ∃ v, laterF (.mk n1 m1 s1 c1 w1) (.mk n2 m2 s2 c2 w2) = v := ⟨_, rfl⟩
 rw [h3] at hlat ⊢
 refine mcalls_body Tryz.func28 rfl Tryz.ntmps28 (Nat.le_of_ble_eq_true rfl) ?_
 refine mwp_seq <| qR rfl <| qB rfl rfl rfl rfl rfl <| qB rfl rfl rfl rfl rfl <| qB rfl rfl rfl rfl rfl <| qO rfl <| op_alloc' rfl zm29 rfl rfl <| qA rfl rfl rfl <| qN <| mwp_seq <| mwp_seq <| qR rfl <| qL rfl rfl rfl rfl ta37 rfl <| qL rfl rfl rfl rfl ta29 rfl ?_
 refine wOps_op rfl (op_call rfl rfl rfl co39 ((rIsAt oa ha _).mono ?_))
 rintro _ _ ⟨rfl, rfl⟩
 refine qO rfl <| op_not rfl rfl <| qM rfl rfl rfl <| qL rfl rfl rfl rfl ta37 rfl <| qL rfl rfl rfl rfl ta29 rfl ?_
 refine wOps_op rfl (op_call rfl rfl rfl co39 ((rIsAt ob hb _).mono ?_))
 rintro _ _ ⟨rfl, rfl⟩
 refine qO rfl <| op_not rfl rfl <| qP rfl rfl rfl rfl <| qN <| mwp_cond_f rfl (rfl) <| mwp_skip <| mwp_seq <| qR rfl <| qL rfl rfl rfl rfl ta37 rfl <| qL rfl rfl rfl rfl ta29 rfl <| qL rfl rfl rfl rfl ta29 rfl ?_
 refine wOps_op rfl (op_call rfl rfl rfl co53 ((hlat _).mono ?_))
 rintro _ _ ⟨rfl, rfl⟩
 refine qM rfl rfl rfl <| qO rfl <| op_extract rfl rfl rfl <| qO rfl <| op_extract rfl rfl rfl <| qO rfl <| op_alloc' rfl zm29 rfl rfl <| qO rfl <| op_store' rfl rfl rfl rfl sz29 rfl rfl (Nat.le_of_ble_eq_true rfl) rfl <| qA rfl rfl rfl <| qN <| mwp_seq <| mwp_seq <| qR rfl <| qM rfl rfl rfl <| qO rfl <| op_not rfl rfl <| qN <| mwp_cond_f rfl (rfl) <| mwp_skip <| mwp_seq <| qR rfl <| qL rfl rfl rfl rfl ta29 rfl <| qO rfl <| op_store' rfl rfl rfl rfl sz29 rfl rfl (Nat.le_of_ble_eq_true rfl) rfl <| qA rfl rfl rfl ?_
 refine qN <| mwp_ret ?_
 exact ret_cell_tmp (.inr rfl) Tryz.results28 rfl rfl ta29 rfl (.refl _) (cl_encV _ (.mk n3 m3 s3 c3 w3)) rfl (.refl _) (.int _ _) ⟨rfl, rfl⟩
theorem knownS_spec (S : MS) : MCalls Tryz.prog 23 [] S fun v σ' => v = .bool true ∧ σ' = S := by
 refine mcalls_body Tryz.func23 rfl Tryz.ntmps23 (Nat.le_of_ble_eq_true rfl) ?_
 refine mwp_seq <| qR rfl <| qA rfl rfl rfl <| qN <| mwp_seq <| qR rfl <| qO rfl <| op_viewTo (y := encV noV) (op_build rfl Tryz.underlying29 zm29 .nil (by kernel_rfl) ⟨rfl, rfl⟩) (.agg (.cons (.refl _) (.cons (.refl _) (.cons (.nil 1) (.cons (.nil 1) (.cons (.nil 5) .nil)))))) ?_
 refine wOps_op rfl (op_call rfl rfl rfl co27 ((next_at okV_no ks_1 _).mono ?_))
 rintro _ _ ⟨rfl, rfl⟩
 refine qM rfl rfl rfl <| qO rfl <| op_extract rfl rfl rfl <| qO rfl <| op_extract rfl rfl rfl <| qO rfl <| op_alloc' rfl zm29 rfl rfl <| qO rfl <| op_store' rfl rfl rfl rfl sz29 rfl rfl (Nat.le_of_ble_eq_true rfl) rfl <| qA rfl rfl rfl <| qN <| mwp_seq <| qR rfl <| qL rfl rfl rfl rfl ta29 rfl ?_
 refine wOps_op rfl (op_call rfl rfl rfl co27 ((next_at ok_ks.1 ks_2 _).mono ?_))
 rintro _ _ ⟨rfl, rfl⟩
 refine qM rfl rfl rfl <| qO rfl <| op_extract rfl rfl rfl <| qO rfl <| op_extract rfl rfl rfl <| qO rfl <| op_alloc' rfl zm29 rfl rfl <| qO rfl <| op_store' rfl rfl rfl rfl sz29 rfl rfl (Nat.le_of_ble_eq_true rfl) rfl <| qA rfl rfl rfl <| qN <| mwp_seq <| qR rfl <| qO rfl <| op_viewTo (y := encV (.mk 3 0 [] [] [])) (op_build rfl Tryz.underlying29 zm29 (.cons fo29_0 sz24 rfl rfl (Nat.le_of_ble_eq_true rfl) .nil) (by kernel_rfl) ⟨rfl, rfl⟩) (.agg (.cons (.refl _) (.cons (.refl _) (.cons (.nil 1) (.cons (.nil 1) (.cons (.nil 5) .nil)))))) ?_
 refine wOps_op rfl (op_call rfl rfl rfl co27 ((next_at (okV_num (by decide)) ks_3 _).mono ?_))
 rintro _ _ ⟨rfl, rfl⟩
 refine qM rfl rfl rfl <| qO rfl <| op_extract rfl rfl rfl <| qO rfl <| op_extract rfl rfl rfl <| qO rfl <| op_alloc' rfl zm29 rfl rfl <| qO rfl <| op_store' rfl rfl rfl rfl sz29 rfl rfl (Nat.le_of_ble_eq_true rfl) rfl <| qA rfl rfl rfl <| qN <| mwp_seq <| qR rfl <| qO rfl <| op_buildSlice rfl Tryz.underlying25 el9 rfl rfl (by decide) (by decide) rfl rfl ?_
 refine qO rfl <| op_viewTo (y := encV sM) (op_build rfl Tryz.underlying29 zm29 (.cons fo29_0 sz24 rfl rfl (Nat.le_of_ble_eq_true rfl) (.cons fo29_2 sz25 rfl rfl (Nat.le_of_ble_eq_true rfl) .nil)) (by kernel_rfl) ⟨rfl, rfl⟩) (.agg (.cons (.refl _) (.cons (.refl _) (.cons (.refl _) (.cons (.nil 1) (.cons (.nil 5) .nil)))))) ?_
 refine wOps_op rfl (op_call rfl rfl rfl co27 ((next_at ok_ks.2.2 ks_4 _).mono ?_))
 rintro _ _ ⟨rfl, rfl⟩
 refine qM rfl rfl rfl <| qO rfl <| op_extract rfl rfl rfl <| qO rfl <| op_extract rfl rfl rfl <| qO rfl <| op_alloc' rfl zm29 rfl rfl <| qO rfl <| op_store' rfl rfl rfl rfl sz29 rfl rfl (Nat.le_of_ble_eq_true rfl) rfl <| qA rfl rfl rfl <| qN <| mwp_seq <| qR rfl <| qM rfl rfl rfl <| qO rfl <| op_if0 rfl Tryz.underlying32 rfl rfl (.inl ⟨rfl, rfl⟩) <| qM rfl rfl rfl <| qF rfl rfl rfl fo29_0 <| qL rfl rfl rfl rfl ta24 rfl <| qC rfl rfl rfl rfl (eqlI rfl) <| qP rfl rfl rfl rfl <| qM rfl rfl rfl ?_
 refine qF rfl rfl rfl fo29_1 <| qL rfl rfl rfl rfl ta24 rfl <| qC rfl rfl rfl rfl (eqlI rfl) <| qP rfl rfl rfl rfl <| qM rfl rfl rfl <| qM rfl rfl rfl <| qO rfl <| op_if0 rfl Tryz.underlying32 rfl rfl (.inl ⟨rfl, rfl⟩) <| qP rfl rfl rfl rfl <| qM rfl rfl rfl <| qF rfl rfl rfl fo29_0 <| qL rfl rfl rfl rfl ta24 rfl <| qC rfl rfl rfl rfl (eqlI rfl) <| qP rfl rfl rfl rfl <| qM rfl rfl rfl <| qL rfl rfl rfl rfl ta29 rfl ?_
 refine qL rfl rfl rfl rfl ta29 rfl ?_
 refine wOps_op rfl (op_call rfl rfl rfl co25 ((later_at ok_ks.2.1 ok_ks.1 ks_5.1 _).mono ?_))
 rintro _ _ ⟨rfl, rfl⟩
 refine qP rfl rfl rfl rfl <| qM rfl rfl rfl <| qL rfl rfl rfl rfl ta29 rfl <| qL rfl rfl rfl rfl ta29 rfl ?_
 refine wOps_op rfl (op_call rfl rfl rfl co25 ((later_at ok_ks.1 ok_ks.2.1 ks_5.2.1 _).mono ?_))
 rintro _ _ ⟨rfl, rfl⟩
 refine qO rfl <| op_not rfl rfl <| qP rfl rfl rfl rfl <| qM rfl rfl rfl <| qL rfl rfl rfl rfl ta29 rfl <| qL rfl rfl rfl rfl ta29 rfl ?_
 refine wOps_op rfl (op_call rfl rfl rfl co25 ((later_at ok_ks.1 ok_ks.1 ks_5.2.2 _).mono ?_))
 rintro _ _ ⟨rfl, rfl⟩
 refine qO rfl <| op_not rfl rfl <| qP rfl rfl rfl rfl <| qM rfl rfl rfl <| qL rfl rfl rfl rfl ta29 rfl ?_
 refine wOps_op rfl (op_call rfl rfl rfl co24 ((isAt ok_ks.2.1 lv_sW _).mono ?_))
 rintro _ _ ⟨rfl, rfl⟩
 refine qP rfl rfl rfl rfl <| qM rfl rfl rfl <| qM rfl rfl rfl <| qO rfl <| op_makeInterface rfl rfl Tryz.underlying62 (by simp) ?_
 refine wOps_op rfl (op_call rfl rfl rfl co32 ((errIs_spec 14 _).mono ?_))
 rintro _ _ ⟨rfl, rfl⟩
 refine qP rfl rfl rfl rfl <| qM rfl rfl rfl <| qM rfl rfl rfl <| qO rfl <| op_makeInterface rfl rfl Tryz.underlying62 (by simp) ?_
 refine wOps_op rfl (op_call rfl rfl rfl co32 ((errIs_spec 15 _).mono ?_))
 rintro _ _ ⟨rfl, rfl⟩
 refine qP rfl rfl rfl rfl <| qA rfl rfl rfl <| qN <| mwp_ret ?_
 exact ret_tmp (.inr rfl) Tryz.results23 rfl (.of_eq (rfl)) (.bool _) ⟨rfl, rfl⟩
theorem StampLaws_spec (a b : Val) (w : Nat) (oa : okV a) (ob : okV b) (hw : w < 256) (S : MS) : MCalls Tryz.prog 8 [encV a, encV b, .int .u8 (w : Int)] S fun v σ' => v = .bool true ∧ σ' = S := by
 obtain ⟨n1, m1, s1, c1, w1⟩ := a
 obtain ⟨n2, m2, s2, c2, w2⟩ := b
 refine mcalls_body Tryz.func8 rfl Tryz.ntmps8 (Nat.le_of_ble_eq_true rfl) ?_
 refine mwp_seq <| qR rfl <| qB rfl rfl rfl rfl rfl <| qB rfl rfl rfl rfl rfl <| qA rfl rfl rfl <| qN <| mwp_seq <| mwp_seq <| qR rfl ?_
 refine wOps_op rfl (op_call rfl rfl rfl co23 ((knownS_spec _).mono ?_))
 rintro _ _ ⟨rfl, rfl⟩
 refine qO rfl <| op_not rfl rfl <| qN <| mwp_cond_f rfl (rfl) <| mwp_skip <| mwp_seq <| mwp_seq <| qR rfl <| qL rfl rfl rfl rfl ta29 rfl ?_
 refine wOps_op rfl (op_call rfl rfl rfl co24 ((stampIs_spec (.mk n1 m1 s1 c1 w1) oa _).mono ?_))
 rintro _ _ ⟨rfl, rfl⟩
 refine qO rfl <| op_not rfl rfl <| qM rfl rfl rfl ?_
 refine wOps_case (fun h18 => ?_) (fun h18 => ?_)
 ·
  refine qS rfl <| qS rfl <| qS rfl <| qP rfl rfl rfl rfl <| qN <| mwp_cond_t rfl (rfl) <| mwp_seq <| qR rfl <| qA rfl rfl rfl <| qN <| mwp_ret ?_
  exact ret_tmp (.inr rfl) Tryz.results8 rfl (.of_eq (rfl)) (.bool _) ⟨rfl, rfl⟩
 ·
  have ha : isLV (.mk n1 m1 s1 c1 w1) = true := by simpa using h18
  refine qL rfl rfl rfl rfl ta29 rfl ?_
  refine wOps_op rfl (op_call rfl rfl rfl co24 ((stampIs_spec (.mk n2 m2 s2 c2 w2) ob _).mono ?_))
  rintro _ _ ⟨rfl, rfl⟩
  refine qO rfl <| op_not rfl rfl <| qP rfl rfl rfl rfl <| qN ?_
  refine mwp_cond_split rfl (fun h22 => ?_) (fun h22 => ?_)
  ·
   refine mwp_seq <| qR rfl <| qA rfl rfl rfl <| qN <| mwp_ret ?_
   exact ret_tmp (.inr rfl) Tryz.results8 rfl (.of_eq (rfl)) (.bool _) ⟨rfl, rfl⟩
  ·
   have hb : isLV (.mk n2 m2 s2 c2 w2) = true := by simpa using h22
   refine mwp_skip <| mwp_seq ?_
   obtain ⟨hn_a, hn_b⟩ := later_two ha hb
   have hx1 := stampLater_spec (.mk n1 m1 s1 c1 w1) (.mk n2 m2 s2 c2 w2) oa ob
   have hx2 := stampLater_spec (.mk n2 m2 s2 c2 w2) (.mk n1 m1 s1 c1 w1) ob oa
   obtain ⟨x1, hx1e⟩ : ∃ r, laterVF (.mk n1 m1 s1 c1 w1) (.mk n2 m2 s2 c2 w2) = r := ⟨_, rfl⟩
   obtain ⟨x2, hx2e⟩ : ∃ r, laterVF (.mk n2 m2 s2 c2 w2) (.mk n1 m1 s1 c1 w1) = r := ⟨_, rfl⟩
   rw [hx1e] at hx1
   rw [hx2e] at hx2
   rw [hx1e, hx2e] at hn_a hn_b
   have hsm := rSame_spec (.mk n1 m1 s1 c1 w1) (.mk n2 m2 s2 c2 w2)
   rw [← hn_b] at hsm
   have hxx : (x1 = true ∧ x2 = false) ∨ (x1 = false ∧ x2 = true) ∨ (x1 = false ∧ x2 = false) := by cases x1 <;> cases x2 <;> simp_all
   rcases hxx with ⟨rfl, rfl⟩ | ⟨rfl, rfl⟩ | ⟨rfl, rfl⟩
   ·
    refine mwp_draw [] [_] mo (by decide) rfl rfl rfl rfl ?_
    refine dO rfl rfl rfl (op_load' rfl rfl rfl ta29 rfl ⟨rfl, rfl⟩) <| dO rfl rfl rfl (op_load' rfl rfl rfl ta29 rfl ⟨rfl, rfl⟩) <| dOps_op rfl rfl (.cons (op_call rfl rfl rfl co25 (hx1 _)) .nil) <| dO rfl rfl rfl (op_load' rfl rfl rfl ta29 rfl ⟨rfl, rfl⟩) <| dO rfl rfl rfl (op_load' rfl rfl rfl ta29 rfl ⟨rfl, rfl⟩) <| dOps_op rfl rfl (.cons (op_call rfl rfl rfl co25 (hx2 _)) .nil) <| dO rfl rfl rfl (op_assign rfl rfl ⟨rfl, rfl⟩) <| dO rfl rfl rfl (op_assign rfl rfl ⟨rfl, rfl⟩) <| dOps_nil <| mwp_seq <| mwp_seq <| qR rfl <| qM rfl rfl rfl <| qM rfl rfl rfl <| qM rfl rfl rfl <| qP rfl rfl rfl rfl <| qM rfl rfl rfl <| qM rfl rfl rfl <| qO rfl <| op_not rfl rfl <| qM rfl rfl rfl <| qS rfl <| qS rfl ?_
    refine qP rfl rfl rfl rfl <| qL rfl rfl rfl rfl ta29 rfl <| qL rfl rfl rfl rfl ta29 rfl ?_
    refine wOps_op rfl (op_call rfl rfl rfl co26 ((hsm _).mono ?_))
    rintro _ _ ⟨rfl, rfl⟩
    refine qO rfl <| op_boolne rfl Tryz.underlying4 rfl rfl <| qP rfl rfl rfl rfl <| qN <| mwp_cond_f rfl (rfl) <| mwp_skip <| mwp_seq ?_
    rcases next_cases (a := (.mk n1 m1 s1 c1 w1)) (w := (w : Int)) ha oa (by omega) with ⟨hn1, hn2⟩ | ⟨hn1, hn2⟩
    ·
     have hnx := next_at oa hn2
     refine qR rfl <| qL rfl rfl rfl rfl ta29 rfl <| qM rfl rfl rfl <| qO rfl <| op_convInt rfl Tryz.underlying5 Tryz.underlying3 rfl (i64_nat (show w < _ by omega)) ?_
     refine wOps_op rfl (op_call rfl rfl rfl co27 ((hnx _).mono ?_))
     rintro _ _ ⟨rfl, rfl⟩
     refine qM rfl rfl rfl <| qO rfl <| op_extract rfl rfl rfl <| qO rfl <| op_extract rfl rfl rfl <| qO rfl <| op_alloc' rfl zm29 rfl rfl <| qO rfl <| op_store' rfl rfl rfl rfl sz29 rfl rfl (Nat.le_of_ble_eq_true rfl) rfl <| qA rfl rfl rfl <| qN <| mwp_seq <| mwp_seq <| qR rfl <| qM rfl rfl rfl <| qO rfl <| op_ifnil rfl Tryz.underlying32 rfl rfl (.inr ⟨rfl, rfl⟩) <| qN <| mwp_cond_t rfl (rfl) <| mwp_seq <| qR rfl <| qF rfl rfl rfl fo29_0 <| qL rfl rfl rfl rfl ta24 rfl <| qC rfl rfl rfl rfl rfl ?_
     refine qA rfl rfl rfl <| qN <| mwp_ret ?_
     exact ret_tmp (.inr rfl) Tryz.results8 rfl (.of_eq (by rw [show n1 = 18446744073709551615 from hn1]; rfl)) (.bool _) ⟨rfl, rfl⟩
    ·
     have hnx := next_at oa hn2
     have hov : okV (.mk (n1 + 1) (w : Int) [[116]] [] []) := okV_mk.2 ⟨by have := (okV_mk.1 oa).1; simp only [Val.nv] at hn1; omega, by omega, by simp, by simp⟩
     have hlv : isLV (.mk (n1 + 1) (w : Int) [[116]] [] []) = true := isLV_t (by have := (okV_mk.1 oa).1; omega)
     obtain ⟨hl1, hl2⟩ := later_next (a := (.mk n1 m1 s1 c1 w1)) (w := (w : Int)) ha (okV_mk.1 oa).1.1
     have hrj := rJoin6_spec (.mk n1 m1 s1 c1 w1) (.mk (n1 + 1) (w : Int) [[116]] [] []) ha hlv oa hov
     rw [show laterF (.mk n1 m1 s1 c1 w1) (.mk (n1 + 1) (w : Int) [[116]] [] []) = (.mk (n1 + 1) (w : Int) [[116]] [] []) from hl2] at hrj
     refine qR rfl <| qL rfl rfl rfl rfl ta29 rfl <| qM rfl rfl rfl <| qO rfl <| op_convInt rfl Tryz.underlying5 Tryz.underlying3 rfl (i64_nat (show w < _ by omega)) ?_
     refine wOps_op rfl (op_call rfl rfl rfl co27 ((hnx _).mono ?_))
     rintro _ _ ⟨rfl, rfl⟩
     refine qM rfl rfl rfl <| qO rfl <| op_extract rfl rfl rfl <| qO rfl <| op_extract rfl rfl rfl <| qO rfl <| op_alloc' rfl zm29 rfl rfl <| qO rfl <| op_store' rfl rfl rfl rfl sz29 rfl rfl (Nat.le_of_ble_eq_true rfl) rfl <| qA rfl rfl rfl <| qN <| mwp_seq <| mwp_seq <| qR rfl <| qM rfl rfl rfl <| qO rfl <| op_if0 rfl Tryz.underlying32 rfl rfl (.inr ⟨rfl, rfl⟩) <| qN <| mwp_cond_f rfl (rfl) <| mwp_skip <| mwp_seq ?_
     refine mwp_draw [7, 8] [_, S ++ [.cells (encV (.mk n1 m1 s1 c1 w1)).cells, .cells (encV (.mk n2 m2 s2 c2 w2)).cells, .cells (encV (.mk (n1 + 1) (w : Int) [[116]] [] [])).cells, .cells [.int .u64 0, .int .u64 0, .lst0, .lst0, .lst0]], S ++ [.cells (encV (.mk n1 m1 s1 c1 w1)).cells, .cells (encV (.mk n2 m2 s2 c2 w2)).cells, .cells (encV (.mk (n1 + 1) (w : Int) [[116]] [] [])).cells, .cells (encV (.mk (n1 + 1) (w : Int) [[116]] [] [])).cells]] mo (by decide) rfl rfl rfl rfl ?_
     refine dOps_op rfl rfl (.cons (op_call rfl rfl rfl co29 (rLast_spec _)) (.cons (op_call rfl rfl rfl co29 (rLast_spec _)) (.nil))) <| dOps_op rfl rfl (.cons (op_load' rfl rfl rfl ta29 rfl ⟨rfl, rfl⟩) (.cons (op_load' rfl rfl rfl ta29 rfl ⟨rfl, rfl⟩) (.nil))) <| dOps_op rfl rfl (.cons (op_load' rfl rfl rfl ta29 rfl ⟨rfl, rfl⟩) (.cons (op_load' rfl rfl rfl ta29 rfl ⟨rfl, rfl⟩) (.nil))) <| dOps_op rfl rfl (.cons (op_call rfl rfl rfl co28 (hrj _)) (.cons (op_call rfl rfl rfl co28 (hrj _)) (.nil))) <| dOps_op rfl rfl (.cons (op_move rfl rfl ⟨rfl, rfl⟩) (.cons (op_move rfl rfl ⟨rfl, rfl⟩) (.nil))) <| dOps_op rfl rfl (.cons (op_extract rfl rfl rfl ⟨rfl, rfl⟩) (.cons (op_extract rfl rfl rfl ⟨rfl, rfl⟩) (.nil))) <| dOps_op rfl rfl (.cons (op_extract rfl rfl rfl ⟨rfl, rfl⟩) (.cons (op_extract rfl rfl rfl ⟨rfl, rfl⟩) (.cons (op_extract rfl rfl rfl ⟨rfl, rfl⟩) (.nil)))) <| dOps_eff rfl rfl rfl rfl (op_alloc' rfl zm29 rfl rfl ⟨rfl, rfl⟩) <| dOps_eff rfl rfl rfl rfl (op_store' rfl rfl rfl rfl sz29 rfl rfl (Nat.le_of_ble_eq_true rfl) rfl ⟨rfl, rfl⟩) <| dO rfl rfl rfl (op_assign rfl rfl ⟨rfl, rfl⟩) <| dOps_nil <| mwp_seq <| qR rfl <| qL rfl rfl rfl rfl ta29 rfl <| qL rfl rfl rfl rfl ta29 rfl ?_
     refine wOps_op rfl (op_call rfl rfl rfl co25 ((later_at hov oa hl1 _).mono ?_))
     rintro _ _ ⟨rfl, rfl⟩
     refine qM rfl rfl rfl <| qM rfl rfl rfl <| qC rfl rfl rfl rfl (eqlI rfl) <| qP rfl rfl rfl rfl <| qM rfl rfl rfl <| qL rfl rfl rfl rfl ta29 rfl <| qL rfl rfl rfl rfl ta29 rfl ?_
     refine wOps_op rfl (op_call rfl rfl rfl co26 ((rSame_spec (.mk (n1 + 1) (w : Int) [[116]] [] []) (.mk (n1 + 1) (w : Int) [[116]] [] []) _).mono ?_))
     rintro _ _ ⟨rfl, rfl⟩
     rw [decide_eq_true rfl]
     refine qP rfl rfl rfl rfl <| qM rfl rfl rfl <| qF rfl rfl rfl fo29_0 <| qL rfl rfl rfl rfl ta24 rfl <| qF rfl rfl rfl fo29_0 <| qL rfl rfl rfl rfl ta24 rfl <| qO rfl <| op_arith rfl rfl rfl rfl <| qC rfl rfl rfl rfl (eqlI (by rw [wrap_u64 (by have := (okV_mk.1 oa).1; simp only [Val.nv] at hn1; omega)])) ?_
     refine qP rfl rfl rfl rfl <| qA rfl rfl rfl <| qN <| mwp_ret ?_
     exact ret_tmp (.inr rfl) Tryz.results8 rfl (.of_eq (rfl)) (.bool _) ⟨rfl, rfl⟩
   ·
    refine mwp_draw [] [_] mo (by decide) rfl rfl rfl rfl ?_
    refine dO rfl rfl rfl (op_load' rfl rfl rfl ta29 rfl ⟨rfl, rfl⟩) <| dO rfl rfl rfl (op_load' rfl rfl rfl ta29 rfl ⟨rfl, rfl⟩) <| dOps_op rfl rfl (.cons (op_call rfl rfl rfl co25 (hx1 _)) .nil) <| dO rfl rfl rfl (op_load' rfl rfl rfl ta29 rfl ⟨rfl, rfl⟩) <| dO rfl rfl rfl (op_load' rfl rfl rfl ta29 rfl ⟨rfl, rfl⟩) <| dOps_op rfl rfl (.cons (op_call rfl rfl rfl co25 (hx2 _)) .nil) <| dO rfl rfl rfl (op_assign rfl rfl ⟨rfl, rfl⟩) <| dO rfl rfl rfl (op_assign rfl rfl ⟨rfl, rfl⟩) <| dOps_nil <| mwp_seq <| mwp_seq <| qR rfl <| qM rfl rfl rfl <| qM rfl rfl rfl <| qS rfl <| qP rfl rfl rfl rfl <| qM rfl rfl rfl <| qM rfl rfl rfl <| qO rfl <| op_not rfl rfl <| qM rfl rfl rfl <| qM rfl rfl rfl <| qO rfl <| op_not rfl rfl ?_
    refine qP rfl rfl rfl rfl <| qL rfl rfl rfl rfl ta29 rfl <| qL rfl rfl rfl rfl ta29 rfl ?_
    refine wOps_op rfl (op_call rfl rfl rfl co26 ((hsm _).mono ?_))
    rintro _ _ ⟨rfl, rfl⟩
    refine qO rfl <| op_boolne rfl Tryz.underlying4 rfl rfl <| qP rfl rfl rfl rfl <| qN <| mwp_cond_f rfl (rfl) <| mwp_skip <| mwp_seq ?_
    rcases next_cases (a := (.mk n1 m1 s1 c1 w1)) (w := (w : Int)) ha oa (by omega) with ⟨hn1, hn2⟩ | ⟨hn1, hn2⟩
    ·
     have hnx := next_at oa hn2
     refine qR rfl <| qL rfl rfl rfl rfl ta29 rfl <| qM rfl rfl rfl <| qO rfl <| op_convInt rfl Tryz.underlying5 Tryz.underlying3 rfl (i64_nat (show w < _ by omega)) ?_
     refine wOps_op rfl (op_call rfl rfl rfl co27 ((hnx _).mono ?_))
     rintro _ _ ⟨rfl, rfl⟩
     refine qM rfl rfl rfl <| qO rfl <| op_extract rfl rfl rfl <| qO rfl <| op_extract rfl rfl rfl <| qO rfl <| op_alloc' rfl zm29 rfl rfl <| qO rfl <| op_store' rfl rfl rfl rfl sz29 rfl rfl (Nat.le_of_ble_eq_true rfl) rfl <| qA rfl rfl rfl <| qN <| mwp_seq <| mwp_seq <| qR rfl <| qM rfl rfl rfl <| qO rfl <| op_ifnil rfl Tryz.underlying32 rfl rfl (.inr ⟨rfl, rfl⟩) <| qN <| mwp_cond_t rfl (rfl) <| mwp_seq <| qR rfl <| qF rfl rfl rfl fo29_0 <| qL rfl rfl rfl rfl ta24 rfl <| qC rfl rfl rfl rfl rfl ?_
     refine qA rfl rfl rfl <| qN <| mwp_ret ?_
     exact ret_tmp (.inr rfl) Tryz.results8 rfl (.of_eq (by rw [show n1 = 18446744073709551615 from hn1]; rfl)) (.bool _) ⟨rfl, rfl⟩
    ·
     have hnx := next_at oa hn2
     have hov : okV (.mk (n1 + 1) (w : Int) [[116]] [] []) := okV_mk.2 ⟨by have := (okV_mk.1 oa).1; simp only [Val.nv] at hn1; omega, by omega, by simp, by simp⟩
     have hlv : isLV (.mk (n1 + 1) (w : Int) [[116]] [] []) = true := isLV_t (by have := (okV_mk.1 oa).1; omega)
     obtain ⟨hl1, hl2⟩ := later_next (a := (.mk n1 m1 s1 c1 w1)) (w := (w : Int)) ha (okV_mk.1 oa).1.1
     have hrj := rJoin6_spec (.mk n1 m1 s1 c1 w1) (.mk (n1 + 1) (w : Int) [[116]] [] []) ha hlv oa hov
     rw [show laterF (.mk n1 m1 s1 c1 w1) (.mk (n1 + 1) (w : Int) [[116]] [] []) = (.mk (n1 + 1) (w : Int) [[116]] [] []) from hl2] at hrj
     refine qR rfl <| qL rfl rfl rfl rfl ta29 rfl <| qM rfl rfl rfl <| qO rfl <| op_convInt rfl Tryz.underlying5 Tryz.underlying3 rfl (i64_nat (show w < _ by omega)) ?_
     refine wOps_op rfl (op_call rfl rfl rfl co27 ((hnx _).mono ?_))
     rintro _ _ ⟨rfl, rfl⟩
     refine qM rfl rfl rfl <| qO rfl <| op_extract rfl rfl rfl <| qO rfl <| op_extract rfl rfl rfl <| qO rfl <| op_alloc' rfl zm29 rfl rfl <| qO rfl <| op_store' rfl rfl rfl rfl sz29 rfl rfl (Nat.le_of_ble_eq_true rfl) rfl <| qA rfl rfl rfl <| qN <| mwp_seq <| mwp_seq <| qR rfl <| qM rfl rfl rfl <| qO rfl <| op_if0 rfl Tryz.underlying32 rfl rfl (.inr ⟨rfl, rfl⟩) <| qN <| mwp_cond_f rfl (rfl) <| mwp_skip <| mwp_seq ?_
     refine mwp_draw [7, 8] [_, S ++ [.cells (encV (.mk n1 m1 s1 c1 w1)).cells, .cells (encV (.mk n2 m2 s2 c2 w2)).cells, .cells (encV (.mk (n1 + 1) (w : Int) [[116]] [] [])).cells, .cells [.int .u64 0, .int .u64 0, .lst0, .lst0, .lst0]], S ++ [.cells (encV (.mk n1 m1 s1 c1 w1)).cells, .cells (encV (.mk n2 m2 s2 c2 w2)).cells, .cells (encV (.mk (n1 + 1) (w : Int) [[116]] [] [])).cells, .cells (encV (.mk (n1 + 1) (w : Int) [[116]] [] [])).cells]] mo (by decide) rfl rfl rfl rfl ?_
     refine dOps_op rfl rfl (.cons (op_call rfl rfl rfl co29 (rLast_spec _)) (.cons (op_call rfl rfl rfl co29 (rLast_spec _)) (.nil))) <| dOps_op rfl rfl (.cons (op_load' rfl rfl rfl ta29 rfl ⟨rfl, rfl⟩) (.cons (op_load' rfl rfl rfl ta29 rfl ⟨rfl, rfl⟩) (.nil))) <| dOps_op rfl rfl (.cons (op_load' rfl rfl rfl ta29 rfl ⟨rfl, rfl⟩) (.cons (op_load' rfl rfl rfl ta29 rfl ⟨rfl, rfl⟩) (.nil))) <| dOps_op rfl rfl (.cons (op_call rfl rfl rfl co28 (hrj _)) (.cons (op_call rfl rfl rfl co28 (hrj _)) (.nil))) <| dOps_op rfl rfl (.cons (op_move rfl rfl ⟨rfl, rfl⟩) (.cons (op_move rfl rfl ⟨rfl, rfl⟩) (.nil))) <| dOps_op rfl rfl (.cons (op_extract rfl rfl rfl ⟨rfl, rfl⟩) (.cons (op_extract rfl rfl rfl ⟨rfl, rfl⟩) (.nil))) <| dOps_op rfl rfl (.cons (op_extract rfl rfl rfl ⟨rfl, rfl⟩) (.cons (op_extract rfl rfl rfl ⟨rfl, rfl⟩) (.cons (op_extract rfl rfl rfl ⟨rfl, rfl⟩) (.nil)))) <| dOps_eff rfl rfl rfl rfl (op_alloc' rfl zm29 rfl rfl ⟨rfl, rfl⟩) <| dOps_eff rfl rfl rfl rfl (op_store' rfl rfl rfl rfl sz29 rfl rfl (Nat.le_of_ble_eq_true rfl) rfl ⟨rfl, rfl⟩) <| dO rfl rfl rfl (op_assign rfl rfl ⟨rfl, rfl⟩) <| dOps_nil <| mwp_seq <| qR rfl <| qL rfl rfl rfl rfl ta29 rfl <| qL rfl rfl rfl rfl ta29 rfl ?_
     refine wOps_op rfl (op_call rfl rfl rfl co25 ((later_at hov oa hl1 _).mono ?_))
     rintro _ _ ⟨rfl, rfl⟩
     refine qM rfl rfl rfl <| qM rfl rfl rfl <| qC rfl rfl rfl rfl (eqlI rfl) <| qP rfl rfl rfl rfl <| qM rfl rfl rfl <| qL rfl rfl rfl rfl ta29 rfl <| qL rfl rfl rfl rfl ta29 rfl ?_
     refine wOps_op rfl (op_call rfl rfl rfl co26 ((rSame_spec (.mk (n1 + 1) (w : Int) [[116]] [] []) (.mk (n1 + 1) (w : Int) [[116]] [] []) _).mono ?_))
     rintro _ _ ⟨rfl, rfl⟩
     rw [decide_eq_true rfl]
     refine qP rfl rfl rfl rfl <| qM rfl rfl rfl <| qF rfl rfl rfl fo29_0 <| qL rfl rfl rfl rfl ta24 rfl <| qF rfl rfl rfl fo29_0 <| qL rfl rfl rfl rfl ta24 rfl <| qO rfl <| op_arith rfl rfl rfl rfl <| qC rfl rfl rfl rfl (eqlI (by rw [wrap_u64 (by have := (okV_mk.1 oa).1; simp only [Val.nv] at hn1; omega)])) ?_
     refine qP rfl rfl rfl rfl <| qA rfl rfl rfl <| qN <| mwp_ret ?_
     exact ret_tmp (.inr rfl) Tryz.results8 rfl (.of_eq (rfl)) (.bool _) ⟨rfl, rfl⟩
   ·
    refine mwp_draw [] [_] mo (by decide) rfl rfl rfl rfl ?_
    refine dO rfl rfl rfl (op_load' rfl rfl rfl ta29 rfl ⟨rfl, rfl⟩) <| dO rfl rfl rfl (op_load' rfl rfl rfl ta29 rfl ⟨rfl, rfl⟩) <| dOps_op rfl rfl (.cons (op_call rfl rfl rfl co25 (hx1 _)) .nil) <| dO rfl rfl rfl (op_load' rfl rfl rfl ta29 rfl ⟨rfl, rfl⟩) <| dO rfl rfl rfl (op_load' rfl rfl rfl ta29 rfl ⟨rfl, rfl⟩) <| dOps_op rfl rfl (.cons (op_call rfl rfl rfl co25 (hx2 _)) .nil) <| dO rfl rfl rfl (op_assign rfl rfl ⟨rfl, rfl⟩) <| dO rfl rfl rfl (op_assign rfl rfl ⟨rfl, rfl⟩) <| dOps_nil <| mwp_seq <| mwp_seq <| qR rfl <| qM rfl rfl rfl <| qM rfl rfl rfl <| qS rfl <| qP rfl rfl rfl rfl <| qM rfl rfl rfl <| qM rfl rfl rfl <| qO rfl <| op_not rfl rfl <| qM rfl rfl rfl <| qM rfl rfl rfl <| qO rfl <| op_not rfl rfl ?_
    refine qP rfl rfl rfl rfl <| qL rfl rfl rfl rfl ta29 rfl <| qL rfl rfl rfl rfl ta29 rfl ?_
    refine wOps_op rfl (op_call rfl rfl rfl co26 ((hsm _).mono ?_))
    rintro _ _ ⟨rfl, rfl⟩
    refine qO rfl <| op_boolne rfl Tryz.underlying4 rfl rfl <| qP rfl rfl rfl rfl <| qN <| mwp_cond_f rfl (rfl) <| mwp_skip <| mwp_seq ?_
    rcases next_cases (a := (.mk n1 m1 s1 c1 w1)) (w := (w : Int)) ha oa (by omega) with ⟨hn1, hn2⟩ | ⟨hn1, hn2⟩
    ·
     have hnx := next_at oa hn2
     refine qR rfl <| qL rfl rfl rfl rfl ta29 rfl <| qM rfl rfl rfl <| qO rfl <| op_convInt rfl Tryz.underlying5 Tryz.underlying3 rfl (i64_nat (show w < _ by omega)) ?_
     refine wOps_op rfl (op_call rfl rfl rfl co27 ((hnx _).mono ?_))
     rintro _ _ ⟨rfl, rfl⟩
     refine qM rfl rfl rfl <| qO rfl <| op_extract rfl rfl rfl <| qO rfl <| op_extract rfl rfl rfl <| qO rfl <| op_alloc' rfl zm29 rfl rfl <| qO rfl <| op_store' rfl rfl rfl rfl sz29 rfl rfl (Nat.le_of_ble_eq_true rfl) rfl <| qA rfl rfl rfl <| qN <| mwp_seq <| mwp_seq <| qR rfl <| qM rfl rfl rfl <| qO rfl <| op_ifnil rfl Tryz.underlying32 rfl rfl (.inr ⟨rfl, rfl⟩) <| qN <| mwp_cond_t rfl (rfl) <| mwp_seq <| qR rfl <| qF rfl rfl rfl fo29_0 <| qL rfl rfl rfl rfl ta24 rfl <| qC rfl rfl rfl rfl rfl ?_
     refine qA rfl rfl rfl <| qN <| mwp_ret ?_
     exact ret_tmp (.inr rfl) Tryz.results8 rfl (.of_eq (by rw [show n1 = 18446744073709551615 from hn1]; rfl)) (.bool _) ⟨rfl, rfl⟩
    ·
     have hnx := next_at oa hn2
     have hov : okV (.mk (n1 + 1) (w : Int) [[116]] [] []) := okV_mk.2 ⟨by have := (okV_mk.1 oa).1; simp only [Val.nv] at hn1; omega, by omega, by simp, by simp⟩
     have hlv : isLV (.mk (n1 + 1) (w : Int) [[116]] [] []) = true := isLV_t (by have := (okV_mk.1 oa).1; omega)
     obtain ⟨hl1, hl2⟩ := later_next (a := (.mk n1 m1 s1 c1 w1)) (w := (w : Int)) ha (okV_mk.1 oa).1.1
     have hrj := rJoin6_spec (.mk n1 m1 s1 c1 w1) (.mk (n1 + 1) (w : Int) [[116]] [] []) ha hlv oa hov
     rw [show laterF (.mk n1 m1 s1 c1 w1) (.mk (n1 + 1) (w : Int) [[116]] [] []) = (.mk (n1 + 1) (w : Int) [[116]] [] []) from hl2] at hrj
     refine qR rfl <| qL rfl rfl rfl rfl ta29 rfl <| qM rfl rfl rfl <| qO rfl <| op_convInt rfl Tryz.underlying5 Tryz.underlying3 rfl (i64_nat (show w < _ by omega)) ?_
     refine wOps_op rfl (op_call rfl rfl rfl co27 ((hnx _).mono ?_))
     rintro _ _ ⟨rfl, rfl⟩
     refine qM rfl rfl rfl <| qO rfl <| op_extract rfl rfl rfl <| qO rfl <| op_extract rfl rfl rfl <| qO rfl <| op_alloc' rfl zm29 rfl rfl <| qO rfl <| op_store' rfl rfl rfl rfl sz29 rfl rfl (Nat.le_of_ble_eq_true rfl) rfl <| qA rfl rfl rfl <| qN <| mwp_seq <| mwp_seq <| qR rfl <| qM rfl rfl rfl <| qO rfl <| op_if0 rfl Tryz.underlying32 rfl rfl (.inr ⟨rfl, rfl⟩) <| qN <| mwp_cond_f rfl (rfl) <| mwp_skip <| mwp_seq ?_
     refine mwp_draw [7, 8] [_, S ++ [.cells (encV (.mk n1 m1 s1 c1 w1)).cells, .cells (encV (.mk n2 m2 s2 c2 w2)).cells, .cells (encV (.mk (n1 + 1) (w : Int) [[116]] [] [])).cells, .cells [.int .u64 0, .int .u64 0, .lst0, .lst0, .lst0]], S ++ [.cells (encV (.mk n1 m1 s1 c1 w1)).cells, .cells (encV (.mk n2 m2 s2 c2 w2)).cells, .cells (encV (.mk (n1 + 1) (w : Int) [[116]] [] [])).cells, .cells (encV (.mk (n1 + 1) (w : Int) [[116]] [] [])).cells]] mo (by decide) rfl rfl rfl rfl ?_
     refine dOps_op rfl rfl (.cons (op_call rfl rfl rfl co29 (rLast_spec _)) (.cons (op_call rfl rfl rfl co29 (rLast_spec _)) (.nil))) <| dOps_op rfl rfl (.cons (op_load' rfl rfl rfl ta29 rfl ⟨rfl, rfl⟩) (.cons (op_load' rfl rfl rfl ta29 rfl ⟨rfl, rfl⟩) (.nil))) <| dOps_op rfl rfl (.cons (op_load' rfl rfl rfl ta29 rfl ⟨rfl, rfl⟩) (.cons (op_load' rfl rfl rfl ta29 rfl ⟨rfl, rfl⟩) (.nil))) <| dOps_op rfl rfl (.cons (op_call rfl rfl rfl co28 (hrj _)) (.cons (op_call rfl rfl rfl co28 (hrj _)) (.nil))) <| dOps_op rfl rfl (.cons (op_move rfl rfl ⟨rfl, rfl⟩) (.cons (op_move rfl rfl ⟨rfl, rfl⟩) (.nil))) <| dOps_op rfl rfl (.cons (op_extract rfl rfl rfl ⟨rfl, rfl⟩) (.cons (op_extract rfl rfl rfl ⟨rfl, rfl⟩) (.nil))) <| dOps_op rfl rfl (.cons (op_extract rfl rfl rfl ⟨rfl, rfl⟩) (.cons (op_extract rfl rfl rfl ⟨rfl, rfl⟩) (.cons (op_extract rfl rfl rfl ⟨rfl, rfl⟩) (.nil)))) <| dOps_eff rfl rfl rfl rfl (op_alloc' rfl zm29 rfl rfl ⟨rfl, rfl⟩) <| dOps_eff rfl rfl rfl rfl (op_store' rfl rfl rfl rfl sz29 rfl rfl (Nat.le_of_ble_eq_true rfl) rfl ⟨rfl, rfl⟩) <| dO rfl rfl rfl (op_assign rfl rfl ⟨rfl, rfl⟩) <| dOps_nil <| mwp_seq <| qR rfl <| qL rfl rfl rfl rfl ta29 rfl <| qL rfl rfl rfl rfl ta29 rfl ?_
     refine wOps_op rfl (op_call rfl rfl rfl co25 ((later_at hov oa hl1 _).mono ?_))
     rintro _ _ ⟨rfl, rfl⟩
     refine qM rfl rfl rfl <| qM rfl rfl rfl <| qC rfl rfl rfl rfl (eqlI rfl) <| qP rfl rfl rfl rfl <| qM rfl rfl rfl <| qL rfl rfl rfl rfl ta29 rfl <| qL rfl rfl rfl rfl ta29 rfl ?_
     refine wOps_op rfl (op_call rfl rfl rfl co26 ((rSame_spec (.mk (n1 + 1) (w : Int) [[116]] [] []) (.mk (n1 + 1) (w : Int) [[116]] [] []) _).mono ?_))
     rintro _ _ ⟨rfl, rfl⟩
     rw [decide_eq_true rfl]
     refine qP rfl rfl rfl rfl <| qM rfl rfl rfl <| qF rfl rfl rfl fo29_0 <| qL rfl rfl rfl rfl ta24 rfl <| qF rfl rfl rfl fo29_0 <| qL rfl rfl rfl rfl ta24 rfl <| qO rfl <| op_arith rfl rfl rfl rfl <| qC rfl rfl rfl rfl (eqlI (by rw [wrap_u64 (by have := (okV_mk.1 oa).1; simp only [Val.nv] at hn1; omega)])) ?_
     refine qP rfl rfl rfl rfl <| qA rfl rfl rfl <| qN <| mwp_ret ?_
     exact ret_tmp (.inr rfl) Tryz.results8 rfl (.of_eq (rfl)) (.bool _) ⟨rfl, rfl⟩
end Go.Proofs.YtlooahbfpmigfaaGreat
end
section
set_option linter.unusedVariables false
set_option linter.unusedSimpArgs false
namespace Go.MV
open Go Go.RowKit Go.ChangeShapes Go.WideShapes Go.Deep
def g0 (W : World) : Gh := { B := W.heap.size, w0 := W, st := fun b => match W.heap[b]? with | some (.cells c _ _) => c.size | _ => 0, bk := fun _ => none, lg := fun _ _ => none }
theorem rel0 (W : World) : Rel (g0 W) [] W := by
  refine ⟨.refl _ _, Nat.le_refl _, fun b hb => ?_, fun _ _ => rfl, fun _ _ _ => rfl, fun _ => none, ⟨fun id o h => (by simp at h), fun i j b h => (by cases h), fun id b h => (by cases h)⟩⟩
  show (match W.heap[b]? with | some (.cells c _ _) => c.size | _ => 0) = 0
  rw [Array.getElem?_eq_none hb]
theorem stab0 {W : World} {ad : Addr} {k : Nat} {v : Value} (h : W.cell? (ad.add k) = some v) (h1 : v.oneCell' = true) : Stab (g0 W) W ad k v := by
  refine ⟨?_, h, h1⟩
  have e := cell_spot h
  rw [e] at h
  show _ < (match W.heap[(ad.add k).block]? with | some (.cells c _ _) => c.size | _ => 0)
  unfold World.cell? at h
  split at h
  · rename_i c t f hc
    simp only [Option.isSome_none, Bool.false_eq_true, if_false] at h
    simp only at hc
    rw [hc]
    exact (Array.getElem?_eq_some_iff.1 h).1
  · cases h
def TyFs (T : TypeId → List MV → Prop) : List Field → List MV → Prop
  | [], l => l = []
  | f :: fs, l => ∃ a b, l = a ++ b ∧ T f.type a ∧ TyFs T fs b
def ElF (P : Program) (e : TypeId) (x : MV) : Prop := match P.underlying e with | some (.struct _) => x = .agg x.cells | _ => [x] = x.cells
def TyM (P : Program) : Nat → TypeId → List MV → Prop
  | 0, _, _ => False
  | n + 1, t, l =>
    match P.underlying t with
    | some (.int k) => ∃ v, l = [.int k v] ∧ (Lit.int k v).wf = true
    | some .bool => ∃ b, l = [.bool b]
    | some .string => ∃ s, l = [.str s] ∧ s.size ≤ maxLen
    | some (.slice e) => ∃ xs, l = [.lst none (P.cellsOf e) xs] ∧ ∀ x ∈ xs, x.cells.length = P.cellsOf e ∧ TyM P n e x.cells ∧ ElF P e x
    | some (.struct fs) => TyFs (TyM P n) fs.toList l
    | _ => False
def contig (P : Program) (size : Nat) : List Field → Nat → Bool
  | [], off => Nat.beq off size
  | f :: fs, off => Nat.beq f.offset off && contig P size fs (off + P.cellsOf f.type)
def okTypes (P : Program) (ts : List TypeId) : Bool :=
  ts.all fun t => match P.underlying t with
    | some (.int _) | some .bool | some .string => true
    | some (.slice e) => natMem e ts && (match P.underlying e with | some (.struct _) => true | _ => Nat.beq (P.cellsOf e) 1)
    | some (.struct fs) => fs.toList.all (fun f => natMem f.type ts) && contig P (P.cellsOf t) fs.toList 0
    | _ => false
theorem rds_of_fields {P : Program} {W : World} {T : TypeId → List MV → Prop} {cs : List Value} {size : Nat} (hlen : cs.length = size) : ∀ (fs : List Field) (off : Nat), contig P size fs off = true →
    (∀ f ∈ fs, ∃ l, Rds (g0 W) W l ((cs.drop f.offset).take (P.cellsOf f.type)) ∧ T f.type l ∧ l.length = P.cellsOf f.type ∧ ∀ y ∈ l, y.one = true) → ∃ l, Rds (g0 W) W l (cs.drop off) ∧ TyFs T fs l ∧ ∀ y ∈ l, y.one = true
  | [], off, hc, _ => by
    have := Nat.eq_of_beq_eq_true hc
    refine ⟨[], ?_, rfl, fun y hy => by cases hy⟩
    rw [List.drop_eq_nil_of_le (by omega)]
    exact .nil _ _
  | f :: fs, off, hc, h => by
    simp only [contig, Bool.and_eq_true] at hc
    have ho := Nat.eq_of_beq_eq_true hc.1
    obtain ⟨a, h1, h2, h3, h5⟩ := h f (List.mem_cons_self ..)
    obtain ⟨b, k1, k2, k3⟩ := rds_of_fields hlen fs _ hc.2 (fun f' hf' => h f' (List.mem_cons_of_mem _ hf'))
    refine ⟨a ++ b, ?_, ⟨a, b, rfl, h2, k2⟩, fun y hy => (List.mem_append.1 hy).elim (h5 y) (k3 y)⟩
    have e : cs.drop off = (cs.drop off).take (P.cellsOf f.type) ++ cs.drop (off + P.cellsOf f.type) := by
      rw [← List.drop_drop, List.take_append_drop]
    rw [e]
    rw [ho] at h1
    exact h1.append k1
theorem tyFs_mono {T T' : TypeId → List MV → Prop} (h : ∀ t l, T t l → T' t l) : ∀ (fs : List Field) (l : List MV), TyFs T fs l → TyFs T' fs l
  | [], l, hl => hl
  | f :: fs, l, ⟨a, b, e, h1, h2⟩ => ⟨a, b, e, h _ _ h1, tyFs_mono h fs b h2⟩
theorem tyM_succ {P : Program} : ∀ (n : Nat) (t : TypeId) (l : List MV), TyM P n t l → TyM P (n + 1) t l
  | 0, t, l, h => h.elim
  | n + 1, t, l, h => by
    unfold TyM at h ⊢
    split at h
    · rename_i k hu; exact h
    · rename_i hu; exact h
    · rename_i hu; exact h
    · rename_i e hu
      obtain ⟨xs, h1, h2⟩ := h
      exact ⟨xs, h1, fun x hx => ⟨(h2 x hx).1, tyM_succ n _ _ (h2 x hx).2.1, (h2 x hx).2.2⟩⟩
    · rename_i fs hu; exact tyFs_mono (tyM_succ n) _ _ h
    · exact h.elim
theorem tyM_le {P : Program} {n m : Nat} (h : n ≤ m) {t : TypeId} {l : List MV} (ht : TyM P n t l) : TyM P m t l := by
  obtain ⟨d, rfl⟩ := Nat.le.dest h
  induction d with
  | zero => exact ht
  | succ d ih => exact tyM_succ _ _ _ (ih (by omega))
section
variable {H : Type} {enc : TypeId × Value → H} {P : Program} {W : World} {base : Nat} {spare : Nat → Bool} {held : Bool}
theorem common_bound {α : Type} {p : Nat → α → Prop} (hm : ∀ n m a, n ≤ m → p n a → p m a) : ∀ (l : List α), (∀ a ∈ l, ∃ n, p n a) → ∃ n, ∀ a ∈ l, p n a
  | [], _ => ⟨0, fun a h => by cases h⟩
  | a :: l, h => by
    obtain ⟨n, hn⟩ := h a (List.mem_cons_self ..)
    obtain ⟨m, hm'⟩ := common_bound hm l (fun b hb => h b (List.mem_cons_of_mem _ hb))
    refine ⟨max n m, fun b hb => ?_⟩
    rcases List.mem_cons.1 hb with rfl | hb
    · exact hm _ _ _ (by omega) hn
    · exact hm _ _ _ (by omega) (hm' b hb)
theorem reads_gen {ts : List TypeId} (hok : okTypes P ts = true) : ∀ (n : Nat) (x : DataW H × List MemPlace) (fuel : Nat) (t : TypeId) (cs : List Value), SizeOf.sizeOf x.1 ≤ n → t ∈ ts → DataW.trod enc P W base spare held fuel t cs = some x →
    ∃ (l : List MV) (m : Nat), Rds (g0 W) W l cs ∧ TyM P m t l ∧ ∀ y ∈ l, y.one = true := by
  intro n
  induction n using Nat.strongRecOn with
  | _ n ih =>
  intro x fuel t cs hx ht h
  have hot : (match P.underlying t with
    | some (.int _) | some .bool | some .string => true
    | some (.slice e) => natMem e ts && (match P.underlying e with | some (.struct _) => true | _ => Nat.beq (P.cellsOf e) 1)
    | some (.struct fs) => fs.toList.all (fun f => natMem f.type ts) && contig P (P.cellsOf t) fs.toList 0
    | _ => false) = true := by
    simp only [okTypes, List.all_eq_true] at hok
    exact hok t ht
  split at hot
  · rename_i k hu
    obtain ⟨v, rfl, rfl, hwf⟩ := DataW.trod_int hu h
    refine ⟨[.int k v], 1, .cons (.int _ _) (.nil _ _), ?_, by simp [MV.one]⟩
    unfold TyM
    rw [hu]
    exact ⟨v, rfl, hwf⟩
  · rename_i hu
    obtain ⟨b, rfl, rfl⟩ := DataW.trod_bool hu h
    refine ⟨[.bool b], 1, .cons (.bool _) (.nil _ _), ?_, by simp [MV.one]⟩
    unfold TyM
    rw [hu]
    exact ⟨b, rfl⟩
  · rename_i hu
    obtain ⟨s, rfl, rfl, hs⟩ := DataW.trod_string hu h
    refine ⟨[.str s], 1, .cons (.str _) (.nil _ _), ?_, by simp [MV.one]⟩
    unfold TyM
    rw [hu]
    exact ⟨s, rfl, hs⟩
  · rename_i e hu
    simp only [Bool.and_eq_true] at hot
    have he : e ∈ ts := natMem_iff.1 hot.1
    rcases open_slice hu h with ⟨rfl, rfl⟩ | ⟨a, len, cap, m, n', D, Pl, rfl, hb, hl, hm, hmm, rfl, hi⟩
    · refine ⟨[.lst none (P.cellsOf e) []], 1, .cons (Sub.nil _ _ _ _ .lst0) (.nil _ _), ?_, by simp [MV.one]⟩
      unfold TyM
      rw [hu]
      exact ⟨[], rfl, fun x hx => by cases hx⟩
    · have hlm : len ≤ m := by rw [hmm]; split <;> omega
      have hel : ∀ i, i < len → ∃ (l : List MV) (k : Nat) (us : List Value), us.length = P.cellsOf e ∧ Rds (g0 W) W l us ∧ TyM P k e l ∧ (∀ y ∈ l, y.one = true) ∧ ∀ j, j < P.cellsOf e → W.cell? ((a.add (i * P.cellsOf e)).add j) = us[j]? := by
        intro i hil
        obtain ⟨cs', hc, ht'⟩ := hi i (by omega)
        obtain ⟨_, hlen, hcell⟩ := World.cells?_some hc
        have hsz : SizeOf.sizeOf (D i) < n := by
          have hmem : D i ∈ (List.range len).map D := List.mem_map.2 ⟨i, List.mem_range.2 hil, rfl⟩
          have := List.sizeOf_lt_of_mem hmem
          simp only [DataW.slice.sizeOf_spec] at hx
          omega
        obtain ⟨l, k, h1, h2, h3⟩ := ih _ hsz (D i, Pl i) n' e cs' (Nat.le_refl _) he ht'
        exact ⟨l, k, cs', hlen, h1, h2, h3, hcell⟩
      have hall : ∀ (N : Nat), N ≤ len → ∃ (xs : List MV) (us : List Value) (k : Nat), xs.length = N ∧ us.length = N * P.cellsOf e ∧ Rds (g0 W) W (flat xs) us ∧ (∀ y ∈ flat xs, y.one = true) ∧ (∀ x ∈ xs, x.cells.length = P.cellsOf e ∧ TyM P k e x.cells ∧ ElF P e x) ∧
          ∀ j, j < N * P.cellsOf e → W.cell? (a.add j) = us[j]? := by
        intro N
        induction N with
        | zero => exact fun _ => ⟨[], [], 0, rfl, by simp, .nil _ _, by simp [flat], by simp, by simp⟩
        | succ N ihN =>
          intro hN
          obtain ⟨xs, us, k, q1, q2, q3, q4, q5, q6⟩ := ihN (by omega)
          obtain ⟨l, k', us', r1, r2, r3, r4, r5⟩ := hel N (by omega)
          have hll : l.length = P.cellsOf e := by rw [← r2.1, r1]
          obtain ⟨y, hy1, hy2⟩ : ∃ y : MV, y.cells = l ∧ ElF P e y := by
            cases hue : P.underlying e with
            | none => 
              have hk1 : P.cellsOf e = 1 := by have := hot.2; rw [hue] at this; exact Nat.eq_of_beq_eq_true this
              match l, hll.trans hk1 with
              | [y], _ =>
                have := r4 y (List.mem_cons_self ..)
                simp only [ElF, hue]
                refine ⟨y, ?_, ?_⟩ <;> (cases y <;> first | rfl | (cases this; done))
            | some d =>
              cases d with
              | struct fs => exact ⟨.agg l, rfl, by simp only [ElF, hue]; rfl⟩
              | _ =>
                have hk1 : P.cellsOf e = 1 := by have := hot.2; rw [hue] at this; exact Nat.eq_of_beq_eq_true this
                match l, hll.trans hk1 with
                | [y], _ =>
                  have := r4 y (List.mem_cons_self ..)
                  simp only [ElF, hue]
                  refine ⟨y, ?_, ?_⟩ <;> (cases y <;> first | rfl | (cases this; done))
          refine ⟨xs ++ [y], us ++ us', max k k', by simp [q1], by rw [List.length_append, q2, r1, Nat.add_mul]; omega, ?_, ?_, ?_, ?_⟩
          · rw [flat_append]
            refine q3.append ?_
            simp only [flat, List.flatMap_cons, List.flatMap_nil, List.append_nil, hy1]
            exact r2
          · intro z hz
            rw [flat_append, List.mem_append] at hz
            rcases hz with hz | hz
            · exact q4 z hz
            · simp only [flat, List.flatMap_cons, List.flatMap_nil, List.append_nil, hy1] at hz
              exact r4 z hz
          · intro x hx
            rcases List.mem_append.1 hx with hx | hx
            · exact ⟨(q5 x hx).1, tyM_le (by omega) (q5 x hx).2.1, (q5 x hx).2.2⟩
            · simp at hx
              subst hx
              rw [hy1]
              exact ⟨hll, tyM_le (by omega) r3, hy2⟩
          · intro j hj
            rw [Nat.add_mul, Nat.one_mul] at hj
            by_cases hjl : j < N * P.cellsOf e
            · rw [List.getElem?_append_left (by omega)]
              exact q6 j hjl
            · rw [List.getElem?_append_right (by omega), q2, ← r5 (j - N * P.cellsOf e) (by omega), Go.MV.add_add]
              congr 2
              omega
      obtain ⟨xs, us, k, q1, q2, q3, q4, q5, q6⟩ := hall len (Nat.le_refl _)
      refine ⟨[.lst none (P.cellsOf e) xs], k + 1, .cons (.lst' q1 hl hm (fun x hx => (q5 x hx).1) q3 (fun j u hu => ⟨a, rfl, stab0 ?_ ?_⟩) (fun t ht => by cases ht)) (.nil _ _), ?_, by simp [MV.one]⟩
      · have hj : j < us.length := (List.getElem?_eq_some_iff.1 hu).1
        rw [q6 j (by omega)]
        exact hu
      · have hj : j < us.length := (List.getElem?_eq_some_iff.1 hu).1
        have hjf : j < (flat xs).length := by rw [← q3.1]; exact hj
        exact one_cell (q3.2 j _ u (List.getElem?_eq_getElem hjf) hu) (q4 _ (List.getElem_mem hjf))
      · unfold TyM
        rw [hu]
        exact ⟨xs, rfl, q5⟩
  · rename_i fs hu
    simp only [Bool.and_eq_true, List.all_eq_true] at hot
    obtain ⟨xs, n', rfl, rfl, hlen, hxl, hf⟩ := DataW.trod_struct hu h
    have hfld : ∀ f ∈ fs.toList, ∃ (k : Nat) (l : List MV), Rds (g0 W) W l ((cs.drop f.offset).take (P.cellsOf f.type)) ∧ TyM P k f.type l ∧ ∀ y ∈ l, y.one = true := by
      intro f hfm
      obtain ⟨i, hi⟩ := List.getElem?_of_mem hfm
      have hi' : fs[i]? = some f := by simpa using hi
      have hilt : i < xs.length := by rw [hxl]; exact (Array.getElem?_eq_some_iff.1 hi').1
      have htr := hf i f hi'
      rw [List.getElem?_eq_getElem hilt] at htr
      have hsz : SizeOf.sizeOf xs[i].1 < n := by
        have hmem : xs[i].1 ∈ xs.map (·.1) := List.mem_map.2 ⟨xs[i], List.getElem_mem hilt, rfl⟩
        have := List.sizeOf_lt_of_mem hmem
        simp only [DataW.agg.sizeOf_spec] at hx
        omega
      obtain ⟨l, k, h1, h2, h3⟩ := ih _ hsz xs[i] n' f.type _ (Nat.le_refl _) (natMem_iff.1 (hot.1 f hfm)) htr
      exact ⟨k, l, h1, h2, h3⟩
    obtain ⟨K, hK⟩ := common_bound (p := fun k (f : Field) => ∃ l : List MV, Rds (g0 W) W l ((cs.drop f.offset).take (P.cellsOf f.type)) ∧ TyM P k f.type l ∧ ∀ y ∈ l, y.one = true) (fun a b f hab ⟨l, h1, h2, h3⟩ => ⟨l, h1, tyM_le hab h2, h3⟩) fs.toList hfld
    have hcont := hot.2
    have hlens : ∀ (gs : List Field) (off : Nat), contig P (P.cellsOf t) gs off = true → off ≤ P.cellsOf t ∧ ∀ f ∈ gs, f.offset + P.cellsOf f.type ≤ P.cellsOf t := by
      intro gs
      induction gs with
      | nil => exact fun off hc => ⟨Nat.le_of_eq (Nat.eq_of_beq_eq_true hc), fun f hf => by cases hf⟩
      | cons f gs ihg =>
        intro off hc
        simp only [contig, Bool.and_eq_true] at hc
        have ho := Nat.eq_of_beq_eq_true hc.1
        obtain ⟨h1, h2⟩ := ihg _ hc.2
        refine ⟨by omega, fun f' hf' => ?_⟩
        rcases List.mem_cons.1 hf' with rfl | hf'
        · omega
        · exact h2 f' hf'
    obtain ⟨l, h1, h2, h3⟩ := rds_of_fields (P := P) (W := W) (T := TyM P K) hlen fs.toList 0 hcont (fun f hfm => by
      obtain ⟨l, h1, h2, h3⟩ := hK f hfm
      refine ⟨l, h1, h2, ?_, h3⟩
      have := (hlens _ _ hcont).2 f hfm
      rw [← h1.1, List.length_take, List.length_drop, hlen]
      omega)
    refine ⟨l, K + 1, by simpa using h1, ?_, h3⟩
    unfold TyM
    rw [hu]
    exact h2
  · cases hot
end
section
variable {H : Type} {enc : TypeId × Value → H} {P : Program} {W : World} {base b0 : Nat} {spare : Nat → Bool} {held : Bool} {r : Reach}
theorem arg_struct {ts : List TypeId} (hok : okTypes P ts = true) {t : TypeId} {fs : Array Field} (ht : t ∈ ts) (hu : P.underlying t = some (.struct fs)) {v : Value} {d : DataW H} {p : List MemPlace} (hv : Value.okWide P W r b0 t v) (h : DataW.Trod enc P W base spare held t v d p) :
    ∃ (l : List MV) (m : Nat), Rd (g0 W) W (.agg l) v ∧ TyM P m t l := by
  obtain ⟨cs, rfl, hsz⟩ := okWide_struct hu hv
  obtain ⟨fuel, hf⟩ := h
  obtain ⟨l, m, h1, h2, _⟩ := reads_gen hok _ _ _ _ _ (Nat.le_refl _) ht hf
  refine ⟨l, m, ?_, h2⟩
  have := Rd.agg' h1
  simpa [Value.cells] using this
theorem arg_one {ts : List TypeId} (hok : okTypes P ts = true) {t : TypeId} (ht : t ∈ ts) {v : Value} {d : DataW H} {p : List MemPlace} (hv : v.cells = #[v]) (h : DataW.Trod enc P W base spare held t v d p) :
    ∃ (l : List MV) (m : Nat), Rds (g0 W) W l [v] ∧ TyM P m t l := by
  obtain ⟨fuel, hf⟩ := h
  rw [hv] at hf
  obtain ⟨l, m, h1, h2, _⟩ := reads_gen hok _ _ _ _ _ (Nat.le_refl _) ht hf
  exact ⟨l, m, h1, h2⟩
end
theorem law_calls {P : Program} {f : FuncId} {xs : List MV} {W : World} {vs : List Value} (h : MCalls P f xs [] fun v σ' => v = .bool true ∧ σ' = []) (hr : Rds (g0 W) W xs vs) : Calls P f vs.toArray W fun e w' => e = .returned (.bool true) ∧ Below W.heap.size W w' := by
  refine (callsIn_wide.1 (h (g0 W) W vs (rel0 W) hr)).mono ?_
  rintro e w' ⟨v, rfl, x, σ', g', ⟨rfl, rfl⟩, hrel, hrd, hle⟩
  rw [hrd.inv_bool]
  have := hrel.below
  rw [hle.B, hle.w0] at this
  exact ⟨rfl, this⟩
end Go.MV
end
section
set_option linter.unusedVariables false
set_option linter.unusedSimpArgs false
namespace Go.MV
open Go Go.RowKit Go.WideShapes Go.ChangeShapes
section
variable {H : Type} {enc : TypeId × Value → H} {P : Program} {W : World} {base b0 : Nat} {spare : Nat → Bool} {held : Bool} {r : Reach} {ts : List TypeId} {t : TypeId} {v : Value} {d : DataW H} {p : List MemPlace}
theorem tyM_intK {k : IntKind} (hu : P.underlying t = some (.int k)) {n : Nat} {l : List MV} (h : TyM P n t l) : ∃ v, l = [.int k v] ∧ (Lit.int k v).wf = true := by
  cases n with
  | zero => exact h.elim
  | succ n => unfold TyM at h; rw [hu] at h; exact h
theorem tyM_str (hu : P.underlying t = some .string) {n : Nat} {l : List MV} (h : TyM P n t l) : ∃ s : Bs, l = [.str (bs s)] ∧ s.length ≤ maxLen := by
  cases n with
  | zero => exact h.elim
  | succ n =>
    unfold TyM at h; rw [hu] at h
    obtain ⟨s, rfl, hs⟩ := h
    exact ⟨strL s, by rw [bs_strL], by unfold strL; rw [Array.length_toList]; exact hs⟩
theorem tyM_slice {e : TypeId} (hu : P.underlying t = some (.slice e)) {n : Nat} {l : List MV} (h : TyM P n t l) : ∃ xs m, m + 1 = n ∧ l = [.lst none (P.cellsOf e) xs] ∧ ∀ x ∈ xs, x.cells.length = P.cellsOf e ∧ TyM P m e x.cells ∧ ElF P e x := by
  cases n with
  | zero => exact h.elim
  | succ n =>
    unfold TyM at h; rw [hu] at h
    obtain ⟨xs, h1, h2⟩ := h
    exact ⟨xs, n, rfl, h1, h2⟩
theorem tyM_struct {fs : Array Field} (hu : P.underlying t = some (.struct fs)) {n : Nat} {l : List MV} (h : TyM P n t l) : ∃ m, m + 1 = n ∧ TyFs (TyM P m) fs.toList l := by
  cases n with
  | zero => exact h.elim
  | succ n => unfold TyM at h; rw [hu] at h; exact ⟨n, rfl, h⟩
theorem all_enc {α : Type} {enc : α → MV} {q : α → Prop} : ∀ {xs : List MV}, (∀ x ∈ xs, ∃ a, x = enc a ∧ q a) → ∃ l : List α, xs = l.map enc ∧ ∀ a ∈ l, q a
  | [], _ => ⟨[], rfl, fun a h => by cases h⟩
  | x :: xs, h => by
    obtain ⟨l, rfl, hl⟩ := all_enc (fun y hy => h y (List.mem_cons_of_mem _ hy))
    obtain ⟨a, rfl, ha⟩ := h x (List.mem_cons_self ..)
    refine ⟨a :: l, rfl, fun b hb => ?_⟩
    rcases List.mem_cons.1 hb with rfl | hb
    · exact ha
    · exact hl b hb
theorem rd_of_rds {g : Gh} {w : World} {m : MV} {v : Value} (h : Rds g w [m] [v]) : Rd g w m v := h.2 0 _ _ rfl rfl
theorem arg_int {k : IntKind} (hok : okTypes P ts = true) (ht : t ∈ ts) (hu : P.underlying t = some (.int k)) (hv : Value.okWide P W r b0 t v) (h : DataW.Trod enc P W base spare held t v d p) : ∃ n, Rd (g0 W) W (.int k n) v ∧ (Lit.int k n).wf = true := by
  obtain ⟨n, rfl⟩ := okWide_int hu hv
  obtain ⟨l, m, h1, h2⟩ := arg_one hok ht rfl h
  obtain ⟨n', rfl, hw⟩ := tyM_intK hu h2
  exact ⟨n', rd_of_rds h1, hw⟩
theorem el_str (hu : P.underlying t = some .string) (m : Nat) (x : MV) (h : TyM P m t x.cells) (he : ElF P t x) : ∃ a : Bs, x = .str (bs a) ∧ a.length ≤ maxLen := by
  obtain ⟨n, hn', hw⟩ := tyM_str hu h
  simp only [ElF, hu] at he
  rw [hn'] at he
  injection he with he
  exact ⟨n, he, hw⟩
theorem wf_u8 {n : Int} (h : (Lit.int .u8 n).wf = true) : ∃ m : Nat, n = (m : Int) ∧ m ≤ 255 := by
  simp [Lit.wf, IntKind.min, IntKind.max, IntKind.signed, IntKind.bits] at h
  exact ⟨n.toNat, by omega, by omega⟩
theorem wf_u64 {n : Int} (h : (Lit.int .u64 n).wf = true) : ∃ m : Nat, n = (m : Int) ∧ m < 18446744073709551616 := by
  simp [Lit.wf, IntKind.min, IntKind.max, IntKind.signed, IntKind.bits] at h
  exact ⟨n.toNat, by omega, by omega⟩
end
end Go.MV
end
section
set_option linter.unusedVariables false
set_option linter.unusedSimpArgs false
set_option maxRecDepth 20000
namespace Go.Proofs.YtlooahbfpmigfaaGreat
open Go Go.MV
theorem cells_tick : Tryz.prog.cellsOf 72 = 2 := by kernel_rfl
theorem tyM_tick {m : Nat} {l : List MV} (h : TyM Tryz.prog m 72 l) : ∃ a : Tk, MV.agg l = encT a ∧ (0 ≤ a.2 ∧ a.2 < 18446744073709551616) := by
  obtain ⟨m', _, h⟩ := tyM_struct Tryz.underlying72 h
  obtain ⟨a, _, rfl, h1, b, _, rfl, h2, rfl⟩ := h
  obtain ⟨w, rfl, _⟩ := tyM_intK Tryz.underlying3 h1
  obtain ⟨n, rfl, hw⟩ := tyM_intK Tryz.underlying24 h2
  obtain ⟨k, rfl, hk⟩ := wf_u64 hw
  exact ⟨(w, k), rfl, by dsimp only; omega, by dsimp only; omega⟩
theorem el_tick (m : Nat) (x : MV) (_ : x.cells.length = Tryz.prog.cellsOf 72) (h : TyM Tryz.prog m 72 x.cells) (he : ElF Tryz.prog 72 x) : ∃ a : Tk, x = encT a ∧ (0 ≤ a.2 ∧ a.2 < 18446744073709551616) := by
  obtain ⟨a, e, ha⟩ := tyM_tick h
  simp only [ElF, Tryz.underlying72] at he
  exact ⟨a, he.trans e, ha⟩
end Go.Proofs.YtlooahbfpmigfaaGreat
end
section
set_option linter.unusedVariables false
set_option linter.unusedSimpArgs false
set_option maxRecDepth 100000
namespace Go.Proofs.YtlooahbfpmigfaaGreat
open Go Go.MV
theorem cellsV_str : Tryz.prog.cellsOf 9 = 1 := by kernel_rfl
theorem cellsV_clk : Tryz.prog.cellsOf 44 = 1 := by kernel_rfl
theorem cellsV_val : Tryz.prog.cellsOf 29 = 5 := by kernel_rfl
theorem tyM_val (n : Nat) : ∀ (l : List MV), TyM Tryz.prog n 29 l → ∃ x : Val, MV.agg l = encV x ∧ okV x := by
  induction n using Nat.strongRecOn with
  | _ n ih =>
  intro l h
  obtain ⟨n', rfl, h⟩ := tyM_struct Tryz.underlying29 h
  obtain ⟨a, _, rfl, h1, b, _, rfl, h2, c, _, rfl, h3, d, _, rfl, h4, e, _, rfl, h5, rfl⟩ := h
  obtain ⟨v1, rfl, w1⟩ := tyM_intK Tryz.underlying24 h1
  obtain ⟨v2, rfl, w2⟩ := tyM_intK Tryz.underlying24 h2
  obtain ⟨k1, rfl, hk1⟩ := wf_u64 w1
  obtain ⟨k2, rfl, hk2⟩ := wf_u64 w2
  obtain ⟨xs, m3, hm3, rfl, hx3⟩ := tyM_slice Tryz.underlying25 h3
  obtain ⟨ss, rfl, _⟩ := all_enc (enc := encX) (q := fun _ => True) (xs := xs) (fun x hx => by
    obtain ⟨_, g2, g3⟩ := hx3 x hx
    obtain ⟨a, e1, _⟩ := el_str Tryz.underlying9 m3 x g2 g3
    exact ⟨a, e1, trivial⟩)
  obtain ⟨ys, m4, hm4, rfl, hx4⟩ := tyM_slice Tryz.underlying26 h4
  obtain ⟨cs, rfl, hcs⟩ := all_enc (enc := encC) (q := fun c : List Tk => ∀ t ∈ c, okTk t) (xs := ys) (fun x hx => by
    obtain ⟨_, g2, g3⟩ := hx4 x hx
    obtain ⟨zs, m5, hm5, e5, hx5⟩ := tyM_slice Tryz.underlying44 g2
    simp only [ElF, Tryz.underlying44] at g3
    rw [e5] at g3
    injection g3 with g3 _
    obtain ⟨c, rfl, hc⟩ := all_enc (enc := encT) (q := okTk) (xs := zs) (fun z hz => by
      obtain ⟨f1, f2, f3⟩ := hx5 z hz
      exact el_tick m5 z f1 f2 f3)
    refine ⟨c, ?_, hc⟩
    rw [g3, cells_tick]
    rfl)
  obtain ⟨us, m6, hm6, rfl, hx6⟩ := tyM_slice Tryz.underlying27 h5
  obtain ⟨vs, rfl, hvs⟩ := all_enc (enc := encV) (q := okV) (xs := us) (fun x hx => by
    obtain ⟨_, g2, g3⟩ := hx6 x hx
    obtain ⟨v, e1, hv⟩ := ih m6 (by omega) _ g2
    simp only [ElF, Tryz.underlying29] at g3
    exact ⟨v, g3.trans e1, hv⟩)
  refine ⟨.mk k1 k2 ss cs vs, ?_, ?_⟩
  · rw [cellsV_str, cellsV_clk, cellsV_val, encV, encVs_eq]
    rfl
  · simp only [okV]
    exact ⟨by omega, by omega, hcs, okVs_iff.2 hvs⟩
theorem arg_val {ts : List TypeId} (hok : okTypes Tryz.prog ts = true) (ht : 29 ∈ ts) {H : Type} {enc : TypeId × Value → H} {W : World} {base b0 : Nat} {spare : Nat → Bool} {held : Bool} {r : Reach} {v : Value} {d : DataW H} {p : List MemPlace} (hv : Value.okWide Tryz.prog W r b0 29 v) (h : DataW.Trod enc Tryz.prog W base spare held 29 v d p) :
    ∃ x : Val, Rd (g0 W) W (encV x) v ∧ okV x := by
  obtain ⟨l, m, h1, h2⟩ := arg_struct hok ht Tryz.underlying29 hv h
  obtain ⟨x, hx, ho⟩ := tyM_val _ _ h2
  exact ⟨x, hx ▸ h1, ho⟩
end Go.Proofs.YtlooahbfpmigfaaGreat
end
