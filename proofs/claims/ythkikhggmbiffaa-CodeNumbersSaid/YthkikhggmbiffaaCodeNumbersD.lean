/-
  Texts on which the proof of CodeNumbers leans: part 4.
-/
import Derived.Test.YthkikhggmbiffaaCodeNumbersC
import Derived.Laws.MakeOwn
import Derived.Laws.IdiomStrings
import Derived.Deep.Slices
import Derived.ChangeSame
import Derived.ProofKit
import Derived.OpenShut
import Derived.ChangeOld
import Derived.SizedLaws
import Derived.Carry
section
set_option linter.unusedVariables false
set_option linter.unusedSimpArgs false
set_option maxRecDepth 20000
set_option maxHeartbeats 400000
namespace Go.Proofs.Ythkikhggmbiffaa
open Go Go.MV Go.RowKit
theorem ret_ctt {P : Program} {fn : Func} {S L : MS} {R : MV → MS → Prop} {env : Env} {e : Exit} {a t k off t2 t3 : Nat} {l : List MV} {ta : Option Nat} {x y x2 y2 x3 y3 : MV} (he : e = .normal ∨ e = .ret) (hres : fn.results = #[.cell a t, .tmp t2, .tmp t3]) (ha : get env a = some (.ref (S.length + k) off)) (hl : L[k]? = some (.cells l)) (ht : tyAgg P t = some ta) (hm : loadMV ta l off = some x) (hs : Sub x y) (hc : Cl S.length y)
  (hx2 : get env t2 = some x2) (hs2 : Sub x2 y2) (hc2 : Cl S.length y2) (hx3 : get env t3 = some x3) (hs3 : Sub x3 y3) (hc3 : Cl S.length y3) (hR : R (.tup [y, y2, y3]) S) : BodyQ P fn S R e env (S ++ L) := by
 refine ⟨he, [x, x2, x3], .tup [y, y2, y3], S, L, ?_, .tup (.cons hs (.cons hs2 (.cons hs3 .nil))), .tup _ (fun z hz => ?_), rfl, Nat.le_refl _, .inl rfl, hR⟩
 ·rw [hres]
  exact .cell ha (by rw [getElem?_own]; exact hl) ht hm (.tmp hx2 (.tmp hx3 .nil))
 ·simp only [List.mem_cons, List.not_mem_nil, or_false] at hz
  rcases hz with rfl | rfl | rfl
  ·exact hc
  ·exact hc2
  ·exact hc3
theorem fails0 (id : Nat) (r : RdS) (S : MS) (h : S[id]? = some (rdO r)) (x : Int) : MCalls Try.prog 25 [.ref id 0, .int .i64 x] S fun v σ' => v = .tup [] ∧ σ' = S.set id (rdO (failR x r)) := by
 have := fails_spec id r S [] h x
 rw [List.append_nil] at this
 refine this.mono fun v σ' hv => ⟨hv.1, ?_⟩
 rw [hv.2, List.append_nil]
theorem cl_ER (n : Nat) (k : Int) : Cl n (.iface 40 (.int .i64 k)) := .iface _ _ (.int _ _)
theorem schR_leaf (deep : Int) (hd : 0 < deep) (id : Nat) (b rest : Bs) (S : MS) (h : S[id]? = some (rdO (b, none))) (hlen : b.length ≤ 1000000) (hn : numM (b, none) = (3, (rest, none))) : MCalls Try.prog 35 [.ref id 0, .int .i64 deep] S fun v σ' => v = encS (.mk 3 []) ∧ σ' = S.set id (rdO (rest, none)) := by
 refine mcalls_body Try.func35 rfl Try.ntmps35 (Nat.le_of_ble_eq_true rfl) ?_
 refine mwp_facts fun _ hcl => ?_
 rw [List.append_nil] at hcl
 refine mwp_seq <| qR rfl <| qO rfl <| op_alloc' rfl zm36 rfl rfl <| qN <| mwp_seq <| mwp_seq <| qR rfl <| qM rfl rfl rfl <| qC rfl rfl rfl rfl rfl <| qN <| mwp_cond_f rfl (decide_eq_false (by omega)) ?_
 refine mwp_skip <| mwp_seq <| qR rfl <| qM rfl rfl rfl ?_
 refine wOps_op rfl (op_call rfl rfl rfl co41 (((num_reads id).sl h hlen).mono ?_))
 rintro _ _ ⟨rfl, rfl⟩
 rw [hn]
 dsimp only
 refine qO rfl <| op_min2' rfl rfl rfl ((by decide : (if (65536 : Int) < ((3 : Nat) : Int) then (65536 : Int) else ((3 : Nat) : Int)) = 3)) ?_
 refine qO rfl <| op_convInt rfl Try.underlying22 Try.underlying3 rfl ((by decide : IntKind.i64.wrap 3 = 3)) ?_
 refine qO rfl <| op_build rfl Try.underlying36 zm36 (.cons fo36_0 sz3 rfl rfl (Nat.le_of_ble_eq_true rfl) .nil) (by kernel_rfl) ?_
 refine qO rfl <| op_alloc' rfl zm36 rfl rfl <| qO rfl <| op_store_own (by simp) rfl rfl rfl rfl sz36 rfl rfl (Nat.le_of_ble_eq_true rfl) rfl ?_
 refine qN <| mwp_seq <| qR rfl <| qA rfl rfl rfl <| qN <| mwp_seq <| mwp_seq <| qR rfl <| qF rfl rfl rfl fo36_0 <| qO rfl <| op_load_own (by simp) rfl rfl rfl ta3 rfl ?_
 refine qN <| mwp_block <| mwp_seq <| mwp_seq <| qR rfl <| qC rfl rfl rfl rfl rfl <| qA rfl rfl rfl <| qN <| mwp_cond_f rfl (rfl) <| mwp_seq <| qR rfl <| qC rfl rfl rfl rfl rfl <| qA rfl rfl rfl <| qN <| mwp_cond_f rfl (rfl) <| mwp_seq <| qR rfl <| qC rfl rfl rfl rfl rfl <| qA rfl rfl rfl <| qN <| mwp_cond_t rfl (rfl) <| mwp_skip <| mwp_cond_t rfl (rfl) <| mwp_skip ?_
 refine mwp_seq <| mwp_seq <| qR rfl <| qM rfl rfl rfl <| qM rfl rfl rfl <| qN <| mwp_block ?_
 refine mwp_loopK (α := Nat) [(0, _), (1, _), (4, _), (5, _), (31, _)] (fun i => [(32, .int .i64 (0 : Int))]) (fun i => [.cells [.int .i64 0, .lst0], .cells [.int .i64 3, .lst0]]) (fun i => True) (fun i => 0) (0) (.keep rfl (.keep rfl (.keep rfl (.keep rfl (.keep rfl (.nil)))))) (.keep rfl (.nil)) (trivial) (rfl) ?_
 rintro i _
 refine mwp_seq <| qR rfl <| qC rfl rfl rfl rfl rfl <| qN <| mwp_seq <| mwp_cond_f rfl (rfl) <| mwp_exit <| mwp_seq <| qR rfl <| qO rfl <| op_load_own (by simp) rfl rfl rfl ta36 rfl ?_
 refine qO rfl <| op_store_own (by simp) rfl rfl rfl rfl sz36 rfl rfl (Nat.le_of_ble_eq_true rfl) rfl ?_
 refine qN <| mwp_ret ?_
 exact ret_cellS (y := encS (.mk 3 [])) (by simp) (.inr rfl) Try.results35 rfl rfl ta36 rfl (.agg (.cons (.refl _) (.cons (.nil 2) .nil))) (cl_encS _ _) (hcl.set (rd_cl _ _)) ⟨rfl, rfl⟩
theorem schR_short (deep : Int) (hd : 0 < deep) (id : Nat) (b : Bs) (S : MS) (h : S[id]? = some (rdO (b, none))) (hlen : b.length ≤ 1000000) (hn : numM (b, none) = (0, (b, some 11))) : MCalls Try.prog 35 [.ref id 0, .int .i64 deep] S fun v σ' => v = encS (.mk 0 []) ∧ σ' = S.set id (rdO (b, some 11)) := by
 refine mcalls_body Try.func35 rfl Try.ntmps35 (Nat.le_of_ble_eq_true rfl) ?_
 refine mwp_facts fun _ hcl => ?_
 rw [List.append_nil] at hcl
 refine mwp_seq <| qR rfl <| qO rfl <| op_alloc' rfl zm36 rfl rfl <| qN <| mwp_seq <| mwp_seq <| qR rfl <| qM rfl rfl rfl <| qC rfl rfl rfl rfl rfl <| qN <| mwp_cond_f rfl (decide_eq_false (by omega)) ?_
 refine mwp_skip <| mwp_seq <| qR rfl <| qM rfl rfl rfl ?_
 refine wOps_op rfl (op_call rfl rfl rfl co41 (((num_reads id).sl h hlen).mono ?_))
 rintro _ _ ⟨rfl, rfl⟩
 rw [hn]
 dsimp only
 refine qO rfl <| op_min2' rfl rfl rfl ((by decide : (if (65536 : Int) < ((0 : Nat) : Int) then (65536 : Int) else ((0 : Nat) : Int)) = 0)) ?_
 refine qO rfl <| op_convInt rfl Try.underlying22 Try.underlying3 rfl ((by decide : IntKind.i64.wrap 0 = 0)) ?_
 refine qO rfl <| op_build rfl Try.underlying36 zm36 (.cons fo36_0 sz3 rfl rfl (Nat.le_of_ble_eq_true rfl) .nil) (by kernel_rfl) ?_
 refine qO rfl <| op_alloc' rfl zm36 rfl rfl <| qO rfl <| op_store_own (by simp) rfl rfl rfl rfl sz36 rfl rfl (Nat.le_of_ble_eq_true rfl) rfl ?_
 refine qN <| mwp_seq <| qR rfl <| qA rfl rfl rfl <| qN <| mwp_seq <| mwp_seq <| qR rfl <| qF rfl rfl rfl fo36_0 <| qO rfl <| op_load_own (by simp) rfl rfl rfl ta3 rfl ?_
 refine qN <| mwp_block <| mwp_seq <| mwp_seq <| qR rfl <| qC rfl rfl rfl rfl rfl <| qA rfl rfl rfl <| qN <| mwp_cond_f rfl (rfl) <| mwp_seq <| qR rfl <| qC rfl rfl rfl rfl rfl <| qA rfl rfl rfl <| qN <| mwp_cond_f rfl (rfl) <| mwp_seq <| qR rfl <| qC rfl rfl rfl rfl rfl <| qA rfl rfl rfl <| qN <| mwp_cond_f rfl (rfl) <| mwp_seq <| qR rfl <| qC rfl rfl rfl rfl rfl ?_
 refine qA rfl rfl rfl <| qN <| mwp_cond_f rfl (rfl) <| qR rfl <| qC rfl rfl rfl rfl rfl <| qA rfl rfl rfl <| qN <| mwp_cond_f rfl (rfl) <| mwp_seq <| mwp_seq <| qR rfl <| qC rfl rfl rfl rfl rfl <| qA rfl rfl rfl <| qN <| mwp_cond_f rfl (rfl) <| qR rfl <| qC rfl rfl rfl rfl rfl <| qA rfl rfl rfl <| qN <| mwp_cond_f rfl (rfl) <| mwp_seq <| qR rfl <| qC rfl rfl rfl rfl rfl ?_
 refine qA rfl rfl rfl <| qN <| mwp_cond_f rfl (rfl) <| qR rfl <| qM rfl rfl rfl ?_
 refine wOps_op rfl (op_call rfl rfl rfl co25 ((fails_spec id (b, some 11) _ _ (get_set h) _).mono ?_))
 rintro _ _ ⟨rfl, rfl⟩
 rw [fail_err, set_set]
 refine qN <| mwp_seq <| mwp_seq <| qR rfl <| qM rfl rfl rfl <| qM rfl rfl rfl <| qN <| mwp_block ?_
 refine mwp_loopK (α := Nat) [(0, _), (1, _), (4, _), (5, _), (31, _)] (fun i => [(32, .int .i64 (0 : Int))]) (fun i => [.cells [.int .i64 0, .lst0], .cells [.int .i64 0, .lst0]]) (fun i => True) (fun i => 0) (0) (.keep rfl (.keep rfl (.keep rfl (.keep rfl (.keep rfl (.nil)))))) (.keep rfl (.nil)) (trivial) (rfl) ?_
 rintro i _
 refine mwp_seq <| qR rfl <| qC rfl rfl rfl rfl rfl <| qN <| mwp_seq <| mwp_cond_f rfl (rfl) <| mwp_exit <| mwp_seq <| qR rfl <| qO rfl <| op_load_own (by simp) rfl rfl rfl ta36 rfl ?_
 refine qO rfl <| op_store_own (by simp) rfl rfl rfl rfl sz36 rfl rfl (Nat.le_of_ble_eq_true rfl) rfl ?_
 refine qN <| mwp_ret ?_
 exact ret_cellS (y := encS (.mk 0 [])) (by simp) (.inr rfl) Try.results35 rfl rfl ta36 rfl (.agg (.cons (.refl _) (.cons (.nil 2) .nil))) (cl_encS _ _) (hcl.set (rd_cl _ _)) ⟨rfl, rfl⟩
theorem readS_leaf (b rest : Bs) (hlen : b.length ≤ 1000000) (hn : numM (b, none) = (3, (rest, none))) (S : MS) : MCalls Try.prog 17 [.str (bs b)] S fun v σ' => v = .tup [encS (.mk 3 []), .str (bs rest), .iface0] ∧ σ' = S := by
 refine mcalls_body Try.func17 rfl Try.ntmps17 (Nat.le_of_ble_eq_true rfl) ?_
 refine mwp_facts fun _ hcl => ?_
 rw [List.append_nil] at hcl
 refine mwp_seq <| qR rfl <| qO rfl <| op_alloc' rfl zm36 rfl rfl <| qA rfl rfl rfl <| qA rfl rfl rfl <| qN <| mwp_seq <| qR rfl <| qM rfl rfl rfl <| qO rfl <| op_build rfl Try.underlying60 zm60 (.cons fo60_0 sz9 rfl rfl (Nat.le_of_ble_eq_true rfl) .nil) (by kernel_rfl) ?_
 refine qB rfl rfl rfl rfl rfl <| qA rfl rfl rfl <| qN <| mwp_seq <| qR rfl ?_
 have hst : (S ++ [MObj.cells [.int .i64 0, .lst0], rdO (b, none)]).set (S.length + 1) (rdO (rest, none)) = S ++ [MObj.cells [.int .i64 0, .lst0], rdO (rest, none)] := by rw [set_own]; rfl
 refine qM rfl rfl rfl ?_
 refine wOps_op rfl (op_call rfl rfl rfl co35 (((schR_leaf 16 (by decide) (S.length + 1) b rest (S ++ [MObj.cells [.int .i64 0, .lst0], rdO (b, none)]) (by rw [getElem?_own]; rfl) hlen hn)).mono ?_))
 rintro _ _ ⟨rfl, rfl⟩
 rw [hst]
 refine qO rfl <| op_alloc' rfl zm36 rfl rfl <| qO rfl <| op_store' rfl rfl rfl rfl sz36 rfl rfl (Nat.le_of_ble_eq_true rfl) rfl <| qN <| mwp_seq <| mwp_seq <| qR rfl <| qM rfl rfl rfl <| qO rfl <| op_nilCheck rfl rfl rfl <| qF rfl rfl rfl fo60_1 <| qL rfl rfl rfl rfl ta31 rfl <| qO rfl <| op_if0 rfl Try.underlying31 rfl rfl (.inr ⟨rfl, rfl⟩) <| qN <| mwp_cond_f rfl (rfl) <| mwp_skip <| mwp_seq ?_
 refine mwp_draw [5] [_, S ++ [.cells [.int .i64 3, .lst none 2 []], rdO (rest, none), .cells [.int .i64 3, .lst none 2 []]]] mo (by decide) rfl rfl rfl rfl ?_
 refine dO rfl rfl rfl (op_load' rfl rfl rfl ta36 rfl ⟨rfl, rfl⟩) <| dOps_op rfl rfl (.cons (op_move rfl rfl ⟨rfl, rfl⟩) (.cons (op_move rfl rfl ⟨rfl, rfl⟩) (.nil))) <| dOps_op rfl rfl (.cons (op_nilCheck rfl rfl rfl ⟨rfl, rfl⟩) (.cons (op_nilCheck rfl rfl rfl ⟨rfl, rfl⟩) (.nil))) <| dOps_op rfl rfl (.cons (op_fieldAddr_ref rfl rfl fo60_0 ⟨rfl, rfl⟩) (.cons (op_fieldAddr_ref rfl rfl fo60_0 ⟨rfl, rfl⟩) (.nil))) <| dOps_op rfl rfl (.cons (op_load' rfl rfl rfl ta9 rfl ⟨rfl, rfl⟩) (.cons (op_load' rfl rfl rfl ta9 rfl ⟨rfl, rfl⟩) (.nil))) <| dOps_eff rfl rfl rfl rfl (op_store' rfl rfl rfl rfl sz36 rfl rfl (Nat.le_of_ble_eq_true rfl) rfl ⟨rfl, rfl⟩) <| dO rfl rfl rfl (op_assign rfl rfl ⟨rfl, rfl⟩) <| dO rfl rfl rfl (op_assign rfl rfl ⟨rfl, rfl⟩) <| dOps_nil <| mwp_ret ?_
 exact ret_ctt (y := encS (.mk 3 [])) (y2 := .str (bs rest)) (y3 := .iface0) (.inr rfl) Try.results17 rfl rfl ta36 rfl (.refl _) (cl_encS _ _) rfl (.refl _) (.str _) rfl (.refl _) .iface0 ⟨rfl, rfl⟩
theorem readS_short (b : Bs) (hlen : b.length ≤ 1000000) (hn : numM (b, none) = (0, (b, some 11))) (S : MS) : MCalls Try.prog 17 [.str (bs b)] S fun v σ' => v = .tup [encS (.mk 0 []), .str (bs b), (.iface 40 (.int .i64 11))] ∧ σ' = S := by
 refine mcalls_body Try.func17 rfl Try.ntmps17 (Nat.le_of_ble_eq_true rfl) ?_
 refine mwp_facts fun _ hcl => ?_
 rw [List.append_nil] at hcl
 refine mwp_seq <| qR rfl <| qO rfl <| op_alloc' rfl zm36 rfl rfl <| qA rfl rfl rfl <| qA rfl rfl rfl <| qN <| mwp_seq <| qR rfl <| qM rfl rfl rfl <| qO rfl <| op_build rfl Try.underlying60 zm60 (.cons fo60_0 sz9 rfl rfl (Nat.le_of_ble_eq_true rfl) .nil) (by kernel_rfl) ?_
 refine qB rfl rfl rfl rfl rfl <| qA rfl rfl rfl <| qN <| mwp_seq <| qR rfl ?_
 have hst : (S ++ [MObj.cells [.int .i64 0, .lst0], rdO (b, none)]).set (S.length + 1) (rdO (b, some 11)) = S ++ [MObj.cells [.int .i64 0, .lst0], rdO (b, some 11)] := by rw [set_own]; rfl
 refine qM rfl rfl rfl ?_
 refine wOps_op rfl (op_call rfl rfl rfl co35 (((schR_short 16 (by decide) (S.length + 1) b (S ++ [MObj.cells [.int .i64 0, .lst0], rdO (b, none)]) (by rw [getElem?_own]; rfl) hlen hn)).mono ?_))
 rintro _ _ ⟨rfl, rfl⟩
 rw [hst]
 refine qO rfl <| op_alloc' rfl zm36 rfl rfl <| qO rfl <| op_store' rfl rfl rfl rfl sz36 rfl rfl (Nat.le_of_ble_eq_true rfl) rfl <| qN <| mwp_seq <| mwp_seq <| qR rfl <| qM rfl rfl rfl <| qO rfl <| op_nilCheck rfl rfl rfl <| qF rfl rfl rfl fo60_1 <| qL rfl rfl rfl rfl ta31 rfl <| qO rfl <| op_ifnil rfl Try.underlying31 rfl rfl (.inr ⟨rfl, rfl⟩) <| qN <| mwp_cond_t rfl (rfl) <| mwp_seq ?_
 refine mwp_draw [6] [_, S ++ [.cells [.int .i64 0, .lst0], rdO (b, some 11), .cells [.int .i64 0, .lst none 2 []]]] mo (by decide) rfl rfl rfl rfl ?_
 refine dO rfl rfl rfl (op_build rfl Try.underlying36 zm36 .nil (by kernel_rfl) ⟨rfl, rfl⟩) ?_
 refine dOps_op rfl rfl (.cons (op_move rfl rfl ⟨rfl, rfl⟩) (.cons (op_move rfl rfl ⟨rfl, rfl⟩) (.nil))) <| dOps_op rfl rfl (.cons (op_move rfl rfl ⟨rfl, rfl⟩) (.cons (op_move rfl rfl ⟨rfl, rfl⟩) (.nil))) <| dOps_op rfl rfl (.cons (op_nilCheck rfl rfl rfl ⟨rfl, rfl⟩) (.cons (op_nilCheck rfl rfl rfl ⟨rfl, rfl⟩) (.nil))) <| dOps_op rfl rfl (.cons (op_fieldAddr_ref rfl rfl fo60_1 ⟨rfl, rfl⟩) (.cons (op_fieldAddr_ref rfl rfl fo60_1 ⟨rfl, rfl⟩) (.nil))) <| dOps_op rfl rfl (.cons (op_load' rfl rfl rfl ta31 rfl ⟨rfl, rfl⟩) (.cons (op_load' rfl rfl rfl ta31 rfl ⟨rfl, rfl⟩) (.nil))) <| dOps_eff rfl rfl rfl rfl (op_store' rfl rfl rfl rfl sz36 rfl rfl (Nat.le_of_ble_eq_true rfl) rfl ⟨rfl, rfl⟩) <| dO rfl rfl rfl (op_assign rfl rfl ⟨rfl, rfl⟩) <| dO rfl rfl rfl (op_assign rfl rfl ⟨rfl, rfl⟩) <| dOps_nil <| mwp_ret ?_
 exact ret_ctt (y := encS (.mk 0 [])) (y2 := .str (bs b)) (y3 := (.iface 40 (.int .i64 11))) (.inr rfl) Try.results17 rfl rfl ta36 rfl (.agg (.cons (.refl _) (.cons (.nil 2) .nil))) (cl_encS _ _) rfl (.refl _) (.str _) rfl (.refl _) (cl_ER _ _) ⟨rfl, rfl⟩
theorem read_good (k : Int) (ins : List Sch) (his : isF 16 (.mk k ins) = true) {M : RdS → Val × RdS} (hM : ∀ id, Reads 23 [.ref id 0, encS (.mk k ins)] id encV M) (b rest : Bs) (hlen : b.length ≤ 1000000) (n m : Int) (s : List Bs) (c : List (List Tk)) (w : List Val) (hm : M (b, none) = (.mk n m s c w, (rest, none))) (hok : okV (.mk n m s c w)) (hfit : (isF 16 (.mk k ins) && isVF (.mk k ins) (.mk n m s c w)) = true) (S : MS) : MCalls Try.prog 8 [encS (.mk k ins), .str (bs b)] S fun v σ' => v = .tup [encV (.mk n m s c w), .str (bs rest), .iface0] ∧ σ' = S := by
 refine mcalls_body Try.func8 rfl Try.ntmps8 (Nat.le_of_ble_eq_true rfl) ?_
 refine mwp_facts fun _ hcl => ?_
 rw [List.append_nil] at hcl
 refine mwp_seq <| qR rfl <| qB rfl rfl rfl rfl rfl <| qO rfl <| op_alloc' rfl zm29 rfl rfl <| qA rfl rfl rfl <| qA rfl rfl rfl <| qN <| mwp_seq <| mwp_seq <| qR rfl <| qL rfl rfl rfl rfl ta36 rfl ?_
 refine wOps_op rfl (op_call rfl rfl rfl co22 ((Is_spec (.mk k ins) _).mono ?_))
 rintro _ _ ⟨rfl, rfl⟩
 refine qO rfl <| op_not rfl rfl <| qN <| mwp_cond_f rfl (by rw [his]; rfl) ?_
 refine mwp_skip <| mwp_seq <| qR rfl <| qM rfl rfl rfl <| qO rfl <| op_build rfl Try.underlying60 zm60 (.cons fo60_0 sz9 rfl rfl (Nat.le_of_ble_eq_true rfl) .nil) (by kernel_rfl) ?_
 refine qB rfl rfl rfl rfl rfl <| qA rfl rfl rfl <| qN <| mwp_seq <| qR rfl ?_
 have hst : (S ++ [MObj.cells (encS (.mk k ins)).cells, MObj.cells [.int .u64 0, .int .u64 0, .lst0, .lst0, .lst0], rdO (b, none)]).set (S.length + 2) (rdO (rest, none)) = S ++ [MObj.cells (encS (.mk k ins)).cells, MObj.cells [.int .u64 0, .int .u64 0, .lst0, .lst0, .lst0], rdO (rest, none)] := by rw [set_own]; rfl
 refine qM rfl rfl rfl <| qL rfl rfl rfl rfl ta36 rfl ?_
 refine wOps_op rfl (op_call rfl rfl rfl co23 ((((hM (S.length + 2)) (b, none) (S ++ [MObj.cells (encS (.mk k ins)).cells, MObj.cells [.int .u64 0, .int .u64 0, .lst0, .lst0, .lst0], rdO (b, none)]) (by rw [getElem?_own]; rfl) hlen)).mono ?_))
 rintro _ _ ⟨rfl, rfl⟩
 rw [hm]
 dsimp only
 rw [hst]
 refine qO rfl <| op_alloc' rfl zm29 rfl rfl <| qO rfl <| op_store' rfl rfl rfl rfl sz29 rfl rfl (Nat.le_of_ble_eq_true rfl) rfl <| qN <| mwp_seq <| mwp_seq <| qR rfl <| qM rfl rfl rfl <| qO rfl <| op_nilCheck rfl rfl rfl <| qF rfl rfl rfl fo60_1 <| qL rfl rfl rfl rfl ta31 rfl <| qO rfl <| op_if0 rfl Try.underlying31 rfl rfl (.inl ⟨rfl, rfl⟩) <| qM rfl rfl rfl <| qL rfl rfl rfl rfl ta36 rfl <| qL rfl rfl rfl rfl ta29 rfl ?_
 refine wOps_op rfl (op_call rfl rfl rfl co24 ((valIs_spec (.mk k ins) (.mk n m s c w) hok _).mono ?_))
 rintro _ _ ⟨rfl, rfl⟩
 refine qO rfl <| op_not rfl rfl <| qP rfl rfl rfl rfl <| qN <| mwp_cond_f rfl (by rw [hfit]; rfl) ?_
 refine mwp_skip <| mwp_seq <| mwp_seq <| qR rfl <| qM rfl rfl rfl <| qO rfl <| op_nilCheck rfl rfl rfl <| qF rfl rfl rfl fo60_1 <| qL rfl rfl rfl rfl ta31 rfl <| qO rfl <| op_if0 rfl Try.underlying31 rfl rfl (.inr ⟨rfl, rfl⟩) <| qN <| mwp_cond_f rfl (rfl) <| mwp_skip <| mwp_seq ?_
 refine mwp_draw [5] [_, S ++ [.cells (encS (.mk k ins)).cells, .cells (encV (.mk n m s c w)).cells, rdO (rest, none), .cells (encV (.mk n m s c w)).cells]] mo (by decide) rfl rfl rfl rfl ?_
 refine dO rfl rfl rfl (op_load' rfl rfl rfl ta29 rfl ⟨rfl, rfl⟩) <| dOps_op rfl rfl (.cons (op_move rfl rfl ⟨rfl, rfl⟩) (.cons (op_move rfl rfl ⟨rfl, rfl⟩) (.nil))) <| dOps_op rfl rfl (.cons (op_nilCheck rfl rfl rfl ⟨rfl, rfl⟩) (.cons (op_nilCheck rfl rfl rfl ⟨rfl, rfl⟩) (.nil))) <| dOps_op rfl rfl (.cons (op_fieldAddr_ref rfl rfl fo60_0 ⟨rfl, rfl⟩) (.cons (op_fieldAddr_ref rfl rfl fo60_0 ⟨rfl, rfl⟩) (.nil))) <| dOps_op rfl rfl (.cons (op_load' rfl rfl rfl ta9 rfl ⟨rfl, rfl⟩) (.cons (op_load' rfl rfl rfl ta9 rfl ⟨rfl, rfl⟩) (.nil))) <| dOps_eff rfl rfl rfl rfl (op_store' rfl rfl rfl rfl sz29 rfl rfl (Nat.le_of_ble_eq_true rfl) rfl ⟨rfl, rfl⟩) <| dO rfl rfl rfl (op_assign rfl rfl ⟨rfl, rfl⟩) <| dO rfl rfl rfl (op_assign rfl rfl ⟨rfl, rfl⟩) <| dOps_nil <| mwp_ret ?_
 exact ret_ctt (y := encV (.mk n m s c w)) (y2 := .str (bs rest)) (y3 := .iface0) (.inr rfl) Try.results8 rfl rfl ta29 rfl (.refl _) (cl_encV _ _) rfl (.refl _) (.str _) rfl (.refl _) .iface0 ⟨rfl, rfl⟩
theorem read_bad (k : Int) (ins : List Sch) (his : isF 16 (.mk k ins) = true) {M : RdS → Val × RdS} (hM : ∀ id, Reads 23 [.ref id 0, encS (.mk k ins)] id encV M) (b rest : Bs) (hlen : b.length ≤ 1000000) (n m : Int) (s : List Bs) (c : List (List Tk)) (w : List Val) (hm : M (b, none) = (.mk n m s c w, (rest, none))) (hok : okV (.mk n m s c w)) (hfit : (isF 16 (.mk k ins) && isVF (.mk k ins) (.mk n m s c w)) = false) (S : MS) : MCalls Try.prog 8 [encS (.mk k ins), .str (bs b)] S fun v σ' => v = .tup [encV noV, .str (bs b), (.iface 40 (.int .i64 10))] ∧ σ' = S := by
 refine mcalls_body Try.func8 rfl Try.ntmps8 (Nat.le_of_ble_eq_true rfl) ?_
 refine mwp_facts fun _ hcl => ?_
 rw [List.append_nil] at hcl
 refine mwp_seq <| qR rfl <| qB rfl rfl rfl rfl rfl <| qO rfl <| op_alloc' rfl zm29 rfl rfl <| qA rfl rfl rfl <| qA rfl rfl rfl <| qN <| mwp_seq <| mwp_seq <| qR rfl <| qL rfl rfl rfl rfl ta36 rfl ?_
 refine wOps_op rfl (op_call rfl rfl rfl co22 ((Is_spec (.mk k ins) _).mono ?_))
 rintro _ _ ⟨rfl, rfl⟩
 refine qO rfl <| op_not rfl rfl <| qN <| mwp_cond_f rfl (by rw [his]; rfl) ?_
 refine mwp_skip <| mwp_seq <| qR rfl <| qM rfl rfl rfl <| qO rfl <| op_build rfl Try.underlying60 zm60 (.cons fo60_0 sz9 rfl rfl (Nat.le_of_ble_eq_true rfl) .nil) (by kernel_rfl) ?_
 refine qB rfl rfl rfl rfl rfl <| qA rfl rfl rfl <| qN <| mwp_seq <| qR rfl ?_
 have hst : (S ++ [MObj.cells (encS (.mk k ins)).cells, MObj.cells [.int .u64 0, .int .u64 0, .lst0, .lst0, .lst0], rdO (b, none)]).set (S.length + 2) (rdO (rest, none)) = S ++ [MObj.cells (encS (.mk k ins)).cells, MObj.cells [.int .u64 0, .int .u64 0, .lst0, .lst0, .lst0], rdO (rest, none)] := by rw [set_own]; rfl
 refine qM rfl rfl rfl <| qL rfl rfl rfl rfl ta36 rfl ?_
 refine wOps_op rfl (op_call rfl rfl rfl co23 ((((hM (S.length + 2)) (b, none) (S ++ [MObj.cells (encS (.mk k ins)).cells, MObj.cells [.int .u64 0, .int .u64 0, .lst0, .lst0, .lst0], rdO (b, none)]) (by rw [getElem?_own]; rfl) hlen)).mono ?_))
 rintro _ _ ⟨rfl, rfl⟩
 rw [hm]
 dsimp only
 rw [hst]
 refine qO rfl <| op_alloc' rfl zm29 rfl rfl <| qO rfl <| op_store' rfl rfl rfl rfl sz29 rfl rfl (Nat.le_of_ble_eq_true rfl) rfl <| qN <| mwp_seq <| mwp_seq <| qR rfl <| qM rfl rfl rfl <| qO rfl <| op_nilCheck rfl rfl rfl <| qF rfl rfl rfl fo60_1 <| qL rfl rfl rfl rfl ta31 rfl <| qO rfl <| op_if0 rfl Try.underlying31 rfl rfl (.inl ⟨rfl, rfl⟩) <| qM rfl rfl rfl <| qL rfl rfl rfl rfl ta36 rfl <| qL rfl rfl rfl rfl ta29 rfl ?_
 refine wOps_op rfl (op_call rfl rfl rfl co24 ((valIs_spec (.mk k ins) (.mk n m s c w) hok _).mono ?_))
 rintro _ _ ⟨rfl, rfl⟩
 refine qO rfl <| op_not rfl rfl <| qP rfl rfl rfl rfl <| qN <| mwp_cond_t rfl (by rw [hfit]; rfl) ?_
 refine qR rfl <| qM rfl rfl rfl ?_
 refine wOps_op rfl (op_call rfl rfl rfl co25 (((fails0 (S.length + 2) (rest, none) (S ++ [MObj.cells (encS (.mk k ins)).cells, MObj.cells [.int .u64 0, .int .u64 0, .lst0, .lst0, .lst0], rdO (rest, none), MObj.cells (encV (.mk n m s c w)).cells]) (by rw [getElem?_own]; rfl) _)).mono ?_))
 rintro _ _ ⟨rfl, rfl⟩
 rw [set_own]
 refine qN <| mwp_seq <| mwp_seq <| qR rfl <| qM rfl rfl rfl <| qO rfl <| op_nilCheck rfl rfl rfl <| qF rfl rfl rfl fo60_1 <| qL rfl rfl rfl rfl ta31 rfl <| qO rfl <| op_ifnil rfl Try.underlying31 rfl rfl (.inr ⟨rfl, rfl⟩) <| qN <| mwp_cond_t rfl (rfl) <| mwp_seq ?_
 refine mwp_draw [6] [_, S ++ [.cells (encS (.mk k ins)).cells, .cells [.int .u64 0, .int .u64 0, .lst0, .lst0, .lst0], rdO (rest, some 10), .cells (encV (.mk n m s c w)).cells]] mo (by decide) rfl rfl rfl rfl ?_
 refine dO rfl rfl rfl (op_build rfl Try.underlying29 zm29 .nil (by kernel_rfl) ⟨rfl, rfl⟩) ?_
 refine dOps_op rfl rfl (.cons (op_move rfl rfl ⟨rfl, rfl⟩) (.cons (op_move rfl rfl ⟨rfl, rfl⟩) (.nil))) <| dOps_op rfl rfl (.cons (op_move rfl rfl ⟨rfl, rfl⟩) (.cons (op_move rfl rfl ⟨rfl, rfl⟩) (.nil))) <| dOps_op rfl rfl (.cons (op_nilCheck rfl rfl rfl ⟨rfl, rfl⟩) (.cons (op_nilCheck rfl rfl rfl ⟨rfl, rfl⟩) (.nil))) <| dOps_op rfl rfl (.cons (op_fieldAddr_ref rfl rfl fo60_1 ⟨rfl, rfl⟩) (.cons (op_fieldAddr_ref rfl rfl fo60_1 ⟨rfl, rfl⟩) (.nil))) <| dOps_op rfl rfl (.cons (op_load' rfl rfl rfl ta31 rfl ⟨rfl, rfl⟩) (.cons (op_load' rfl rfl rfl ta31 rfl ⟨rfl, rfl⟩) (.nil))) <| dOps_eff rfl rfl rfl rfl (op_store' rfl rfl rfl rfl sz29 rfl rfl (Nat.le_of_ble_eq_true rfl) rfl ⟨rfl, rfl⟩) <| dO rfl rfl rfl (op_assign rfl rfl ⟨rfl, rfl⟩) <| dO rfl rfl rfl (op_assign rfl rfl ⟨rfl, rfl⟩) <| dOps_nil <| mwp_ret ?_
 exact ret_ctt (y := encV noV) (y2 := .str (bs b)) (y3 := (.iface 40 (.int .i64 10))) (.inr rfl) Try.results8 rfl rfl ta29 rfl (.agg (.cons (.refl _) (.cons (.refl _) (.cons (.nil 1) (.cons (.nil 1) (.cons (.nil 5) .nil)))))) (cl_encV _ _) rfl (.refl _) (.str _) rfl (.refl _) (cl_ER _ _) ⟨rfl, rfl⟩
theorem read_err (k : Int) (ins : List Sch) (his : isF 16 (.mk k ins) = true) {M : RdS → Val × RdS} (hM : ∀ id, Reads 23 [.ref id 0, encS (.mk k ins)] id encV M) (b rest : Bs) (hlen : b.length ≤ 1000000) (n m : Int) (s : List Bs) (c : List (List Tk)) (w : List Val) (e : Int) (hm : M (b, none) = (.mk n m s c w, (rest, some e))) (S : MS) : MCalls Try.prog 8 [encS (.mk k ins), .str (bs b)] S fun v σ' => v = .tup [encV noV, .str (bs b), (.iface 40 (.int .i64 e))] ∧ σ' = S := by
 refine mcalls_body Try.func8 rfl Try.ntmps8 (Nat.le_of_ble_eq_true rfl) ?_
 refine mwp_facts fun _ hcl => ?_
 rw [List.append_nil] at hcl
 refine mwp_seq <| qR rfl <| qB rfl rfl rfl rfl rfl <| qO rfl <| op_alloc' rfl zm29 rfl rfl <| qA rfl rfl rfl <| qA rfl rfl rfl <| qN <| mwp_seq <| mwp_seq <| qR rfl <| qL rfl rfl rfl rfl ta36 rfl ?_
 refine wOps_op rfl (op_call rfl rfl rfl co22 ((Is_spec (.mk k ins) _).mono ?_))
 rintro _ _ ⟨rfl, rfl⟩
 refine qO rfl <| op_not rfl rfl <| qN <| mwp_cond_f rfl (by rw [his]; rfl) ?_
 refine mwp_skip <| mwp_seq <| qR rfl <| qM rfl rfl rfl <| qO rfl <| op_build rfl Try.underlying60 zm60 (.cons fo60_0 sz9 rfl rfl (Nat.le_of_ble_eq_true rfl) .nil) (by kernel_rfl) ?_
 refine qB rfl rfl rfl rfl rfl <| qA rfl rfl rfl <| qN <| mwp_seq <| qR rfl ?_
 have hst : (S ++ [MObj.cells (encS (.mk k ins)).cells, MObj.cells [.int .u64 0, .int .u64 0, .lst0, .lst0, .lst0], rdO (b, none)]).set (S.length + 2) (rdO (rest, some e)) = S ++ [MObj.cells (encS (.mk k ins)).cells, MObj.cells [.int .u64 0, .int .u64 0, .lst0, .lst0, .lst0], rdO (rest, some e)] := by rw [set_own]; rfl
 refine qM rfl rfl rfl <| qL rfl rfl rfl rfl ta36 rfl ?_
 refine wOps_op rfl (op_call rfl rfl rfl co23 ((((hM (S.length + 2)) (b, none) (S ++ [MObj.cells (encS (.mk k ins)).cells, MObj.cells [.int .u64 0, .int .u64 0, .lst0, .lst0, .lst0], rdO (b, none)]) (by rw [getElem?_own]; rfl) hlen)).mono ?_))
 rintro _ _ ⟨rfl, rfl⟩
 rw [hm]
 dsimp only
 rw [hst]
 refine qO rfl <| op_alloc' rfl zm29 rfl rfl <| qO rfl <| op_store' rfl rfl rfl rfl sz29 rfl rfl (Nat.le_of_ble_eq_true rfl) rfl <| qN <| mwp_seq <| mwp_seq <| qR rfl <| qM rfl rfl rfl <| qO rfl <| op_nilCheck rfl rfl rfl <| qF rfl rfl rfl fo60_1 <| qL rfl rfl rfl rfl ta31 rfl <| qO rfl <| op_ifnil rfl Try.underlying31 rfl rfl (.inl ⟨rfl, rfl⟩) <| qM rfl rfl rfl <| qS rfl <| qS rfl <| qS rfl <| qS rfl <| qP rfl rfl rfl rfl <| qN <| mwp_cond_f rfl (rfl) <| mwp_skip <| mwp_seq ?_
 refine mwp_seq <| qR rfl <| qM rfl rfl rfl <| qO rfl <| op_nilCheck rfl rfl rfl <| qF rfl rfl rfl fo60_1 <| qL rfl rfl rfl rfl ta31 rfl <| qO rfl <| op_ifnil rfl Try.underlying31 rfl rfl (.inr ⟨rfl, rfl⟩) <| qN <| mwp_cond_t rfl (rfl) <| mwp_seq ?_
 refine mwp_draw [6] [_, S ++ [.cells (encS (.mk k ins)).cells, .cells [.int .u64 0, .int .u64 0, .lst0, .lst0, .lst0], rdO (rest, some e), .cells (encV (.mk n m s c w)).cells]] mo (by decide) rfl rfl rfl rfl ?_
 refine dO rfl rfl rfl (op_build rfl Try.underlying29 zm29 .nil (by kernel_rfl) ⟨rfl, rfl⟩) ?_
 refine dOps_op rfl rfl (.cons (op_move rfl rfl ⟨rfl, rfl⟩) (.cons (op_move rfl rfl ⟨rfl, rfl⟩) (.nil))) <| dOps_op rfl rfl (.cons (op_move rfl rfl ⟨rfl, rfl⟩) (.cons (op_move rfl rfl ⟨rfl, rfl⟩) (.nil))) <| dOps_op rfl rfl (.cons (op_nilCheck rfl rfl rfl ⟨rfl, rfl⟩) (.cons (op_nilCheck rfl rfl rfl ⟨rfl, rfl⟩) (.nil))) <| dOps_op rfl rfl (.cons (op_fieldAddr_ref rfl rfl fo60_1 ⟨rfl, rfl⟩) (.cons (op_fieldAddr_ref rfl rfl fo60_1 ⟨rfl, rfl⟩) (.nil))) <| dOps_op rfl rfl (.cons (op_load' rfl rfl rfl ta31 rfl ⟨rfl, rfl⟩) (.cons (op_load' rfl rfl rfl ta31 rfl ⟨rfl, rfl⟩) (.nil))) <| dOps_eff rfl rfl rfl rfl (op_store' rfl rfl rfl rfl sz29 rfl rfl (Nat.le_of_ble_eq_true rfl) rfl ⟨rfl, rfl⟩) <| dO rfl rfl rfl (op_assign rfl rfl ⟨rfl, rfl⟩) <| dO rfl rfl rfl (op_assign rfl rfl ⟨rfl, rfl⟩) <| dOps_nil <| mwp_ret ?_
 exact ret_ctt (y := encV noV) (y2 := .str (bs b)) (y3 := (.iface 40 (.int .i64 e))) (.inr rfl) Try.results8 rfl rfl ta29 rfl (.agg (.cons (.refl _) (.cons (.refl _) (.cons (.nil 1) (.cons (.nil 1) (.cons (.nil 5) .nil)))))) (cl_encV _ _) rfl (.refl _) (.str _) rfl (.refl _) (cl_ER _ _) ⟨rfl, rfl⟩
end Go.Proofs.Ythkikhggmbiffaa
end
section
set_option linter.unusedVariables false
set_option linter.unusedSimpArgs false
namespace Go.MV
open Go Go.RowKit
section
variable {P : Program} {rd : Option Nat} {o : Oper} {env : Env} {σ : MS} {K : MV → MS → Prop}
end
end Go.MV
end
section
set_option linter.unusedVariables false
set_option linter.unusedSimpArgs false
namespace Go.MV
open Go Go.RowKit
section
variable {P : Program} {rd : Option Nat} {o : Oper} {env : Env} {σ : MS} {K : MV → MS → Prop}
theorem gets_vec {g : Gh} {w : World} (hr : Rel g σ w) {l : List MV} {us : List Value} {sz n c : Nat} (hl : Rds g w l us) (ty : TypeId) {fr : Nat × Nat} (hfr : FrOk fr us.length) (hn : n ≤ c) (hc : c ≤ maxLen) (h : K (.vec σ.length 0 sz n c) (σ ++ [.cells l])) :
    Gets g w K (.slice (some ⟨w.heap.size, 0, none⟩) n c) (w.alloc (.cells us.toArray ty fr)) := by
  obtain ⟨g', h1, h2, h3⟩ := hr.alloc_objF hl ty fr hfr
  exact ⟨_, _, g', h, h1, .vec _ _ _ _ _ _ h3 hn hc, h2⟩
theorem op_indexAddr_vec {t e : TypeId} {x y : Operand} {id off sz n c i : Nat} {k : IntKind} {m : Int} (ho : o.op = .indexAddr t x y) (hu : P.underlying t = some (.slice e)) (hs : szOf P e = some sz) (hx : evo env x = some (.vec id off sz n c)) (hy : evo env y = some (.int k m)) (hm : m = (i : Int)) (hi : i < n) (h : K (.ref id (off + i * sz)) σ) : OpWp P rd o env σ K := by
  refine OpWp.of_run (by simp [ho]) fun g w a hr hop => ?_
  subst hm
  obtain ⟨b, hb, h1, h2, hv⟩ := (hop x (by simp [ho, Op.operands]) _ hx).inv_vec
  have hv2 := (hop y (by simp [ho, Op.operands]) _ hy).inv_int
  refine ⟨.pointer (some ⟨b, off + i * sz, none⟩), w, ?_, .same h hr (.ref _ _ _ hb)⟩
  simp [execOp, ho, Instr.indexAt, hv, hv2, asIntOf, run_underlying hu, hi, szOf_run hs, add_off]
theorem op_len_vec {x : Operand} {id off sz n c : Nat} {t e : TypeId} (ho : o.op = .call { callee := .builtin .len, args := #[x], argTypes := #[t] }) (hu : P.underlying t = some (.slice e)) (hx : evo env x = some (.vec id off sz n c)) (h : K (.int .i64 (n : Int)) σ) : OpWp P rd o env σ K := by
  refine OpWp.of_run (by simp [ho]) fun g w a hr hop => ?_
  obtain ⟨b, hb, h1, h2, hv⟩ := (hop x (by simp [ho, Op.operands, Call.operands]) _ hx).inv_vec
  refine ⟨.int .i64 n, w, ?_, .same h hr (.int _ _)⟩
  simp [execOp, ho, resolve, invoke, builtin, Builtin.len_, run_underlying hu, hv, goInt]
theorem op_conv_tobytes {t t' e : TypeId} {x : Operand} {l : Bs} (ho : o.op = .convert t t' x) (hs : P.underlying t = some .string) (hd : P.underlying t' = some (.slice e)) (he : P.underlying e = some (.int .u8)) (hx : evo env x = some (.str (bs l))) (hl : l.length ≤ maxLen)
    (h : ∀ k, K (.vec σ.length 0 1 l.length (l.length + k)) (σ ++ [.cells (l.map encY ++ List.replicate k (.int .u8 0))])) : OpWp P rd o env σ K := by
  refine OpWp.of_run (by simp [ho]) fun g w a hr hop => ?_
  have hv := (hop x (by simp [ho, Op.operands]) _ hx).inv_str
  have hsz : (bs l).size = l.length := by simp [bs, ByteArray.size]
  have hge := grownCap_ge w (bs l).size 0 e
  have hle := grownCap_le_maxLen w (bs l).size 0 e (by rw [hsz]; exact hl)
  obtain ⟨k, hk⟩ : ∃ k, grownCap w (bs l).size 0 e = l.length + k := ⟨grownCap w (bs l).size 0 e - l.length, by omega⟩
  have hrow : bytesRow (bs l) (l.length + k) = ((l.map fun b => Value.int .u8 (b.toNat : Int)) ++ List.replicate k (Value.int .u8 0)).toArray := by
    unfold bytesRow
    rw [hsz, Nat.add_sub_cancel_left]
    simp [bs]
  have hrun := run_bytes_of_string (P := P) w t t' e (bs l) hs hd he
  rw [hk, hrow, hsz] at hrun
  obtain ⟨fr, hfr, hrun⟩ : ∃ fr : Nat × Nat, FrOk fr ((l.map fun b => Value.int .u8 (b.toNat : Int)) ++ List.replicate k (Value.int .u8 0)).length ∧ (convert t t' (.string (bs l))).run P w = .ok (.slice (some ⟨w.heap.size, 0, none⟩) l.length (l.length + k)) (w.drew.alloc (.cells ((l.map fun b => Value.int .u8 (b.toNat : Int)) ++ List.replicate k (Value.int .u8 0)).toArray e fr)) := ⟨_, .inr (by simp), hrun⟩
  refine ⟨.slice (some ⟨w.heap.size, 0, none⟩) l.length (l.length + k), w.drew.alloc (.cells ((l.map fun b => Value.int .u8 (b.toNat : Int)) ++ List.replicate k (Value.int .u8 0)).toArray e fr), ?_, ?_⟩
  · simp only [execOp, ho, hv, Sem.run_bind, hrun]
    rfl
  · refine Gets.le (Le.drew g w) ?_
    refine gets_vec hr.drew (l := l.map encY ++ List.replicate k (.int .u8 0)) ?_ e hfr (by omega) (by omega) (h k)
    refine Rds.append ⟨by simp, fun j y u hy hu => ?_⟩ ⟨by simp, fun j y u hy hu => ?_⟩
    · rw [List.getElem?_map] at hy hu
      obtain ⟨b, hb, rfl⟩ := Option.map_eq_some_iff.1 hy
      rw [hb] at hu
      injection hu with hu
      rw [← hu]
      exact .int _ _
    · rw [List.eq_of_mem_replicate (List.mem_of_getElem? hy), List.eq_of_mem_replicate (List.mem_of_getElem? hu)]
      exact .int _ _
end
theorem Rel.freeze {g : Gh} {σ : MS} {w : World} (h : Rel g σ w) {id b k : Nat} {l : List MV} (hσ : σ[id]? = some (.cells l)) (hb : g.bk id = some b) (hk : k ≤ l.length) :
    Rel (g.stab b k) (σ.set id .gone) w ∧ Le g w (g.stab b k) w := by
  obtain ⟨own, hown⟩ := h.ex
  obtain ⟨b', us, ty, e1, e2, e3, ⟨fr, e4, _⟩, e5⟩ := hown.obj _ _ hσ
  rw [hb] at e2
  injection e2 with e2
  subst e2
  have hle : Le g w (g.stab b k) w := by
    refine ⟨⟨rfl, rfl, fun c i hi => ⟨?_, rfl⟩, fun _ _ h => h, fun _ _ _ h => h, Nat.le_refl _⟩, fun _ _ h => h⟩
    simp only [Gh.stab]
    split
    · rename_i e; subst e; omega
    · exact hi
  have hg := h.gone id
  refine ⟨⟨h.below, h.base, fun c hc => ?_, fun i hi => h.bkn i (by simpa using hi), fun t n ht => h.lgn t n (by simpa using ht), ?_⟩, hle⟩
  · simp only [Gh.stab]
    split
    · rename_i e
      subst e
      have := (hown.lt id c e1).2.2
      omega
    · exact h.fresh c hc
  · refine ⟨fun i => if i = id then none else own i, ⟨fun i ob hi => ?_, fun i j c hi hj => ?_, fun i c hi => ?_⟩⟩
    · by_cases e : i = id
      · subst e
        rw [List.getElem?_set, if_pos rfl] at hi
        split at hi
        · injection hi with hi
          subst hi
          simp [ObjRel]
        · cases hi
      · rw [if_neg e]
        rw [List.getElem?_set_ne (fun h => e h.symm)] at hi
        refine (hown.obj i ob hi).keep0 hle.toLe0 (fun c hc => ⟨rfl, ?_⟩) (fun _ => rfl)
        simp only [Gh.stab]
        rw [if_neg]
        intro ec
        subst ec
        exact e (hown.inj _ _ _ hc e1)
    · split at hi
      · cases hi
      · split at hj
        · cases hj
        · exact hown.inj i j c hi hj
    · split at hi
      · cases hi
      · obtain ⟨h1, h2⟩ := hown.lt i c hi
        exact ⟨by simpa using h1, h2⟩
section
variable {P : Program} {rd : Option Nat} {N n : Nat} {c : Code} {Q : Exit → Env → MS → Prop} {env : Env} {S L : MS}
end
end Go.MV
end
section
set_option linter.unusedVariables false
set_option linter.unusedSimpArgs false
set_option maxRecDepth 20000
set_option maxHeartbeats 400000
namespace Go.Proofs.Ythkikhggmbiffaa
open Go Go.MV Go.RowKit
def vK : Val := .mk 0 0 [[97], [98]] [] []
def vK2 : Val := .mk 0 0 [[98], [97]] [] []
theorem numB3 : numB 3 = [3] := by rw [numB_lo (by decide)]; rfl
theorem numB2 : numB 2 = [2] := by rw [numB_lo (by decide)]; rfl
theorem numB1 : numB 1 = [1] := by rw [numB_lo (by decide)]; rfl
theorem numB128 : numB 128 = [128, 1] := by rw [numB_hi (by decide), numB_lo (by decide)]; rfl
theorem schB3 : schB (.mk 3 []) = [3] := by
 rw [schB, schBs, List.append_nil]
 exact numB3
theorem vK_B : flatB 3 vK = [2, 1, 97, 1, 98] := by
 show numB 2 ++ ((numB 1 ++ [97]) ++ ((numB 1 ++ [98]) ++ [])) = _
 rw [numB2, numB1]
 rfl
theorem textB_a : textB [97] = [1, 97] := by
 show numB 1 ++ [97] = _
 rw [numB1]
 rfl
theorem isF3 : isF 16 (.mk 3 []) = true := by decide
theorem vK_yes : (isF 16 (.mk 3 []) && isVF (.mk 3 []) vK) = true := by
 rw [isF3, Bool.true_and, vK, isVF]
 rfl
theorem vK2_no : (isF 16 (.mk 3 []) && isVF (.mk 3 []) vK2) = false := by
 rw [isF3, Bool.true_and, vK2, isVF]
 rfl
theorem vK_ok : okV vK := by simp [vK, okV, okVs]
theorem vK2_ok : okV vK2 := by simp [vK2, okV, okVs]
theorem hn3 : numM ([3] ++ [120], none) = (3, ([120], none)) := by rfl
theorem hn0 : numM ([], none) = (0, ([], some 11)) := by rfl
theorem hmK : flatM 3 ([2, 1, 97, 1, 98] ++ [121], none) = (vK, ([121], none)) := by rfl
theorem hmK2 : flatM 3 ([2, 1, 98, 1, 97], none) = (vK2, ([], none)) := by rfl
theorem same3 (S : MS) : MCalls Try.prog 20 [encS (.mk 3 []), encS (.mk 3 [])] S fun v σ' => v = .bool true ∧ σ' = S := by
 refine mcalls_body Try.func20 rfl Try.ntmps20 (Nat.le_of_ble_eq_true rfl) ?_
 refine mwp_seq <| qR rfl <| qB rfl rfl rfl rfl rfl <| qB rfl rfl rfl rfl rfl <| qA rfl rfl rfl <| qN <| mwp_seq <| mwp_seq <| qR rfl <| qF rfl rfl rfl fo36_0 <| qL rfl rfl rfl rfl ta3 rfl <| qF rfl rfl rfl fo36_0 <| qL rfl rfl rfl rfl ta3 rfl <| qC rfl rfl rfl rfl rfl <| qM rfl rfl rfl <| qF rfl rfl rfl fo36_1 <| qL rfl rfl rfl rfl ta34 rfl <| qE rfl rfl Try.underlying34 rfl ?_
 refine qF rfl rfl rfl fo36_1 <| qL rfl rfl rfl rfl ta34 rfl <| qE rfl rfl Try.underlying34 rfl <| qC rfl rfl rfl rfl rfl <| qP rfl rfl rfl rfl <| qN <| mwp_cond_f rfl (rfl) <| mwp_skip <| mwp_seq <| mwp_seq <| qR rfl <| qA rfl rfl rfl <| qN <| mwp_block ?_
 refine mwp_loopK (α := Nat) [(2, _), (3, _)] (fun i => [(5, .int .i64 (0 : Int))]) (fun i => [.cells (encS (.mk 3 [])).cells, .cells (encS (.mk 3 [])).cells]) (fun i => True) (fun i => 0) (0) (.keep rfl (.keep rfl (.nil))) (.keep rfl (.nil)) (trivial) (rfl) ?_
 rintro i _
 refine mwp_seq <| mwp_seq <| qR rfl <| qM rfl rfl rfl <| qF rfl rfl rfl fo36_1 <| qL rfl rfl rfl rfl ta34 rfl <| qE rfl rfl Try.underlying34 rfl <| qC rfl rfl rfl rfl rfl <| qN <| mwp_cond_f rfl (rfl) <| mwp_exit <| mwp_seq <| qR rfl <| qA rfl rfl rfl <| qN <| mwp_ret ?_
 exact ret_tmp (.inr rfl) Try.results20 rfl (.of_eq (rfl)) (.bool _) ⟨rfl, rfl⟩
theorem known9_spec (S : MS) : MCalls Try.prog 6 [] S fun v σ' => v = .bool true ∧ σ' = S := by
 refine mcalls_body Try.func6 rfl Try.ntmps6 (Nat.le_of_ble_eq_true rfl) ?_
 refine mwp_seq <| qR rfl <| qA rfl rfl rfl <| qN <| mwp_seq <| qR rfl <| qO rfl <| op_build rfl Try.underlying36 zm36 (.cons fo36_0 sz3 rfl rfl (Nat.le_of_ble_eq_true rfl) .nil) (by kernel_rfl) ?_
 refine qO rfl <| op_alloc' rfl zm36 rfl rfl <| qO rfl <| op_store' rfl rfl rfl rfl sz36 rfl rfl (Nat.le_of_ble_eq_true rfl) rfl <| qN <| mwp_seq <| qR rfl <| qL rfl rfl rfl rfl ta36 rfl ?_
 refine wOps_op rfl (op_call rfl rfl rfl co18 (((schema_spec (.mk 3 []) isF3 _).sub (.cons (.agg (.cons (.refl _) (.cons (.nil 2) .nil))) .nil)).mono ?_))
 rintro _ _ ⟨rfl, rfl⟩
 rw [schB3]
 refine qO rfl <| op_strcat rfl rfl rfl (by decide) ?_
 refine wOps_op rfl (op_call rfl rfl rfl co17 ((readS_leaf ([3] ++ [120]) [120] (by decide) hn3 _).mono ?_))
 rintro _ _ ⟨rfl, rfl⟩
 refine qM rfl rfl rfl <| qO rfl <| op_extract rfl rfl rfl <| qO rfl <| op_extract rfl rfl rfl <| qO rfl <| op_extract rfl rfl rfl <| qO rfl <| op_alloc' rfl zm36 rfl rfl <| qO rfl <| op_store' rfl rfl rfl rfl sz36 rfl rfl (Nat.le_of_ble_eq_true rfl) rfl <| qA rfl rfl rfl <| qA rfl rfl rfl <| qN <| mwp_seq ?_
 refine mwp_draw [11, 12] [_, S ++ [.cells [.int .i64 3, .lst0], .cells (encS (.mk 3 [])).cells, .cells [.int .u64 0, .int .u64 0, .lst0, .lst0, .lst0]], S ++ [.cells [.int .i64 3, .lst0], .cells (encS (.mk 3 [])).cells, .cells (encV vK).cells]] mo (by decide) rfl rfl rfl rfl ?_
 refine dOps_op rfl rfl (.cons (op_load' rfl rfl rfl ta36 rfl ⟨rfl, rfl⟩) (.cons (op_load' rfl rfl rfl ta36 rfl ⟨rfl, rfl⟩) (.nil))) <| dOps_op rfl rfl (.cons (op_load' rfl rfl rfl ta36 rfl ⟨rfl, rfl⟩) (.cons (op_load' rfl rfl rfl ta36 rfl ⟨rfl, rfl⟩) (.nil))) <| dOps_op rfl rfl (.cons (op_buildSlice rfl Try.underlying25 el9 rfl rfl (by decide) (by decide) rfl rfl ⟨rfl, rfl⟩) (.cons (op_buildSlice rfl Try.underlying25 el9 rfl rfl (by decide) (by decide) rfl rfl ⟨rfl, rfl⟩) (.nil))) ?_
 refine dOps_op rfl rfl (.cons (op_build rfl Try.underlying29 zm29 (.cons fo29_2 sz25 rfl rfl (Nat.le_of_ble_eq_true rfl) .nil) (by kernel_rfl) ⟨rfl, rfl⟩) (.cons (op_build rfl Try.underlying29 zm29 (.cons fo29_2 sz25 rfl rfl (Nat.le_of_ble_eq_true rfl) .nil) (by kernel_rfl) ⟨rfl, rfl⟩) (.nil))) ?_
 refine dOps_op rfl rfl (.cons (op_call rfl rfl rfl co19 ((bytes_spec (.mk 3 []) vK (flatB 3 vK) vK_ok vK_yes (by rw [vK_B]; simp) (by rw [vK_B]; simp) (fun id t => flat_writes 3 [] (.inr (.inr rfl)) 0 0 [[97], [98]] [] [] (by decide) (by decide) (by decide) id t) _).sub (.cons (.agg (.cons (.refl _) (.cons (.nil 2) .nil))) (.cons (.agg (.cons (.refl _) (.cons (.refl _) (.cons (.refl _) (.cons (.nil 1) (.cons (.nil 5) .nil)))))) .nil)))) (.cons (op_call rfl rfl rfl co19 ((bytes_spec (.mk 3 []) vK (flatB 3 vK) vK_ok vK_yes (by rw [vK_B]; simp) (by rw [vK_B]; simp) (fun id t => flat_writes 3 [] (.inr (.inr rfl)) 0 0 [[97], [98]] [] [] (by decide) (by decide) (by decide) id t) _).sub (.cons (.agg (.cons (.refl _) (.cons (.nil 2) .nil))) (.cons (.agg (.cons (.refl _) (.cons (.refl _) (.cons (.refl _) (.cons (.nil 1) (.cons (.nil 5) .nil)))))) .nil)))) (.nil))) ?_
 rw [vK_B]
 refine dOps_op rfl rfl (.cons (op_strcat rfl rfl rfl (by decide) ⟨rfl, rfl⟩) (.cons (op_strcat rfl rfl rfl (by decide) ⟨rfl, rfl⟩) (.nil))) ?_
 refine dOps_op rfl rfl (.cons (op_call rfl rfl rfl co8 ((read_good 3 [] isF3 (fun id => flat_reads 3 [] (.inr (.inr rfl)) id) ([2, 1, 97, 1, 98] ++ [121]) [121] (by decide) 0 0 [[97], [98]] [] [] hmK vK_ok vK_yes _).sub (.cons (.agg (.cons (.refl _) (.cons (.nil 2) .nil))) (.cons (.refl _) .nil)))) (.cons (op_call rfl rfl rfl co8 ((read_good 3 [] isF3 (fun id => flat_reads 3 [] (.inr (.inr rfl)) id) ([2, 1, 97, 1, 98] ++ [121]) [121] (by decide) 0 0 [[97], [98]] [] [] hmK vK_ok vK_yes _).sub (.cons (.agg (.cons (.refl _) (.cons (.nil 2) .nil))) (.cons (.refl _) .nil)))) (.nil))) ?_
 refine dOps_op rfl rfl (.cons (op_move rfl rfl ⟨rfl, rfl⟩) (.cons (op_move rfl rfl ⟨rfl, rfl⟩) (.nil))) <| dOps_op rfl rfl (.cons (op_extract rfl rfl rfl ⟨rfl, rfl⟩) (.cons (op_extract rfl rfl rfl ⟨rfl, rfl⟩) (.nil))) <| dOps_op rfl rfl (.cons (op_extract rfl rfl rfl ⟨rfl, rfl⟩) (.cons (op_extract rfl rfl rfl ⟨rfl, rfl⟩) (.cons (op_extract rfl rfl rfl ⟨rfl, rfl⟩) (.nil)))) <| dOps_op rfl rfl (.cons (op_extract rfl rfl rfl ⟨rfl, rfl⟩) (.cons (op_extract rfl rfl rfl ⟨rfl, rfl⟩) (.cons (op_extract rfl rfl rfl ⟨rfl, rfl⟩) (.nil)))) <| dOps_eff rfl rfl rfl rfl (op_alloc' rfl zm29 rfl rfl ⟨rfl, rfl⟩) <| dOps_eff rfl rfl rfl rfl (op_store' rfl rfl rfl rfl sz29 rfl rfl (Nat.le_of_ble_eq_true rfl) rfl ⟨rfl, rfl⟩) <| dO rfl rfl rfl (op_assign rfl rfl ⟨rfl, rfl⟩) <| dO rfl rfl rfl (op_assign rfl rfl ⟨rfl, rfl⟩) <| dOps_nil <| mwp_seq <| qR rfl <| qL rfl rfl rfl rfl ta36 rfl ?_
 refine wOps_op rfl (op_call rfl rfl rfl co8 (((read_bad 3 [] isF3 (fun id => flat_reads 3 [] (.inr (.inr rfl)) id) [2, 1, 98, 1, 97] [] (by decide) 0 0 [[98], [97]] [] [] hmK2 vK2_ok vK2_no _).sub (.cons (.agg (.cons (.refl _) (.cons (.nil 2) .nil))) (.cons (.refl _) .nil))).mono ?_))
 rintro _ _ ⟨rfl, rfl⟩
 refine qM rfl rfl rfl <| qO rfl <| op_extract rfl rfl rfl <| qO rfl <| op_extract rfl rfl rfl <| qO rfl <| op_extract rfl rfl rfl <| qO rfl <| op_alloc' rfl zm29 rfl rfl <| qO rfl <| op_store' rfl rfl rfl rfl sz29 rfl rfl (Nat.le_of_ble_eq_true rfl) rfl <| qA rfl rfl rfl <| qA rfl rfl rfl <| qN <| mwp_seq <| qR rfl ?_
 refine wOps_op rfl (op_call rfl rfl rfl co17 ((readS_short [] (by decide) hn0 _).mono ?_))
 rintro _ _ ⟨rfl, rfl⟩
 refine qM rfl rfl rfl <| qO rfl <| op_extract rfl rfl rfl <| qO rfl <| op_extract rfl rfl rfl <| qO rfl <| op_extract rfl rfl rfl <| qO rfl <| op_alloc' rfl zm36 rfl rfl <| qO rfl <| op_store' rfl rfl rfl rfl sz36 rfl rfl (Nat.le_of_ble_eq_true rfl) rfl <| qA rfl rfl rfl <| qA rfl rfl rfl <| qN <| mwp_seq <| qR rfl <| qM rfl rfl rfl <| qO rfl <| op_if0 rfl Try.underlying31 rfl rfl (.inl ⟨rfl, rfl⟩) <| qM rfl rfl rfl <| qM rfl rfl rfl <| qO rfl <| op_strcmp rfl rfl rfl rfl <| qP rfl rfl rfl rfl ?_
 refine qM rfl rfl rfl <| qL rfl rfl rfl rfl ta36 rfl <| qL rfl rfl rfl rfl ta36 rfl ?_
 refine wOps_op rfl (op_call rfl rfl rfl co20 (((same3 _).sub (.cons (.refl _) (.cons (.agg (.cons (.refl _) (.cons (.nil 2) .nil))) .nil))).mono ?_))
 rintro _ _ ⟨rfl, rfl⟩
 refine qP rfl rfl rfl rfl <| qM rfl rfl rfl <| qM rfl rfl rfl <| qO rfl <| op_if0 rfl Try.underlying31 rfl rfl (.inl ⟨rfl, rfl⟩) <| qP rfl rfl rfl rfl <| qM rfl rfl rfl <| qM rfl rfl rfl <| qO rfl <| op_strcmp rfl rfl rfl rfl <| qP rfl rfl rfl rfl <| qM rfl rfl rfl <| qF rfl rfl rfl fo29_2 <| qL rfl rfl rfl rfl ta25 rfl <| qE rfl rfl Try.underlying25 rfl <| qC rfl rfl rfl rfl rfl <| qP rfl rfl rfl rfl ?_
 refine qM rfl rfl rfl <| qM rfl rfl rfl <| qO rfl <| op_makeInterface rfl rfl Try.underlying40 (by simp) ?_
 refine wOps_op rfl (op_call rfl rfl rfl co10 ((errIs_spec 10 _).mono ?_))
 rintro _ _ ⟨rfl, rfl⟩
 refine qP rfl rfl rfl rfl <| qM rfl rfl rfl <| qM rfl rfl rfl <| qO rfl <| op_makeInterface rfl rfl Try.underlying40 (by simp) ?_
 refine wOps_op rfl (op_call rfl rfl rfl co10 ((errIs_spec 11 _).mono ?_))
 rintro _ _ ⟨rfl, rfl⟩
 refine qP rfl rfl rfl rfl <| qM rfl rfl rfl ?_
 refine wOps_op rfl (op_call rfl rfl rfl co7 ((codeNum_spec 128 (by decide) (by rw [numB128]; decide) _).mono ?_))
 rintro _ _ ⟨rfl, rfl⟩
 rw [numB128]
 refine qO rfl <| op_strcmp rfl rfl rfl rfl <| qP rfl rfl rfl rfl <| qM rfl rfl rfl ?_
 refine wOps_op rfl (op_call rfl rfl rfl co21 ((codeText_spec [97] (by decide) _).mono ?_))
 rintro _ _ ⟨rfl, rfl⟩
 rw [textB_a]
 refine qO rfl <| op_strcmp rfl rfl rfl rfl <| qP rfl rfl rfl rfl <| qM rfl rfl rfl ?_
 refine wOps_op rfl (op_call rfl rfl rfl co11 ((codeHash_spec [] (by decide) _).mono ?_))
 rintro _ _ ⟨rfl, rfl⟩
 refine qC rfl rfl rfl rfl rfl <| qP rfl rfl rfl rfl <| qA rfl rfl rfl <| qN <| mwp_ret ?_
 exact ret_tmp (.inr rfl) Try.results6 rfl (.of_eq (rfl)) (.bool _) ⟨rfl, rfl⟩
end Go.Proofs.Ythkikhggmbiffaa
end
section
set_option linter.unusedVariables false
set_option linter.unusedSimpArgs false
set_option maxRecDepth 20000
set_option maxHeartbeats 400000
namespace Go.Proofs.Ythkikhggmbiffaa
open Go Go.MV Go.RowKit
theorem bytes_get {s : Bs} {k : Nat} {c : UInt8} {R : List MV} (h : s[k]? = some c) : (s.map encY ++ R)[0 + k * 1]? = some (.int .u8 (c.toNat : Int)) := by
 have hk := (List.getElem?_eq_some_iff.1 h).1
 rw [Nat.zero_add, Nat.mul_one, List.getElem?_append_left (by simpa using hk), List.getElem?_map, h]
 rfl
theorem bytes_set {s : Bs} {k : Nat} {c : UInt8} {R : List MV} (hk : k < s.length) : setMany (s.map encY ++ R) (0 + k * 1) [.int .u8 (c.toNat : Int)] = (s.set k c).map encY ++ R := by
 rw [Nat.zero_add, Nat.mul_one, setMany, List.map_set, List.set_eq_take_append_cons_drop, if_pos (by simpa using hk)]
 rw [List.take_append_of_le_length (by simp; omega), List.length_singleton, List.drop_append_of_le_length (by simp; omega)]
 simp [encY]
end Go.Proofs.Ythkikhggmbiffaa
end
section
set_option linter.unusedVariables false
set_option linter.unusedSimpArgs false
namespace Go.MV
open Go Go.RowKit
section
variable {P : Program} {rd : Option Nat} {o : Oper} {env : Env} {σ : MS} {K : MV → MS → Prop}
theorem op_append_vec {t e bytes id : Nat} {x y : Operand} {tok : Option Nat} {l m : Bs} {R : List MV} (hm0 : m ≠ []) (ho : o.op = .call { callee := .builtin .append, args := #[x, y], argTypes := #[t, t] }) (hu : P.underlying t = some (.slice e)) (he : elemOk P e 1 bytes = true) (hx : evo env x = some (.vec id 0 1 l.length (l.length + R.length))) (hy : evo env y = some (.lst tok 1 (m.map encY))) (hσ : σ[id]? = some (.cells (l.map encY ++ R)))
    (hb : (l.length + m.length) * bytes ≤ 140737488355328) (hml : l.length + m.length ≤ 4611686018427387904) (hK : K (.lst none 1 ((l ++ m).map encY)) (σ.set id .gone)) : OpWp P rd o env σ K := by
  refine OpWp.of_run (by simp [ho]) fun g w a hr hop => ?_
  obtain ⟨i, z, hi, hz, hs, hby, hzs, hpos⟩ := elemOk_spec he
  obtain ⟨b, hb', i1, i2, hv⟩ := (hop x (by simp [ho, Op.operands, Call.operands]) _ hx).inv_vec
  obtain ⟨a', c', us', hvy, k1, k2, k3, k4, k5, _⟩ := (hop y (by simp [ho, Op.operands, Call.operands]) _ hy).inv_lst
  rw [flat_encY] at k4
  rw [List.length_map] at hvy
  have hul : us'.length = m.length := by rw [k4.1, List.length_map]
  have hmp : 0 < m.length := List.length_pos_iff.2 hm0
  obtain ⟨ad', rfl, _⟩ := k5 0 us'[0] (List.getElem?_eq_getElem (by omega))
  have hnews : ∀ (j : Nat) (u : Value), us'[j]? = some u → w.cell? (ad'.add j) = some u := fun j u hj => by
    obtain ⟨ad2, e2, hst⟩ := k5 j u hj
    injection e2 with e2
    subst e2
    exact hst.2.1
  have hone : ∀ u ∈ us', u.oneCell' = true := fun u hmem => by
    obtain ⟨j, hj⟩ := List.getElem?_of_mem hmem
    obtain ⟨_, _, hst⟩ := k5 j u hj
    exact hst.2.2
  obtain ⟨own, hown⟩ := hr.ex
  obtain ⟨b', us, ty, e1, e2, e3, ⟨fr, e4, hfr⟩, e5⟩ := hown.obj _ _ hσ
  rw [hb'] at e2
  injection e2 with e2
  subst e2
  have huslen : us.length = l.length + R.length := by rw [e5.1]; simp
  have hidl := (List.getElem?_eq_some_iff.1 hσ).1
  by_cases hroom : m.length ≤ R.length
  · have hrun := run_storeCells_fr P b l.length ty fr us' 0 us.toArray w e4 (by simpa using hfr) (by simp; omega) hone
    have hf := run_firstCells_some (P := P) w 1 m.length ad' m.length c' us' (by omega) hnews
    obtain ⟨hrel, hl⟩ := hr.store (off := l.length) hσ k4 (by simp; omega) hb' e4
    have hset : setMany (l.map encY ++ R) l.length (m.map encY) = (l ++ m).map encY ++ R.drop m.length := by
      rw [setMany, List.take_left' (by simp), List.length_map, List.drop_append, List.length_map, Nat.add_sub_cancel_left, List.drop_eq_nil_of_le (by simp), List.nil_append, List.map_append]
    rw [hset] at hrel
    have hσ2 : (σ.set id (MObj.cells ((l ++ m).map encY ++ R.drop m.length)))[id]? = some (.cells ((l ++ m).map encY ++ R.drop m.length)) := by rw [List.getElem?_set_self hidl]
    obtain ⟨hr2, hl2⟩ := hrel.freeze (k := (l ++ m).length) hσ2 hb' (by simp)
    rw [List.set_set] at hr2
    obtain ⟨own2, hown2⟩ := hrel.ex
    obtain ⟨b2, us2, ty2, f1, f2, f3, ⟨fr2, f4, _⟩, f5⟩ := hown2.obj _ _ hσ2
    rw [hb'] at f2
    injection f2 with f2
    subst f2
    have hroom' : l.length + m.length ≤ l.length + R.length := by omega
    refine ⟨.slice (some ⟨b, 0, none⟩) (l ++ m).length (l.length + R.length), _, ?_, ⟨_, _, g.stab b (l ++ m).length, hK, hr2, ?_, hl.trans hl2⟩⟩
    · simp only [Nat.add_zero] at hrun
      rw [List.length_append]
      simp [execOp, ho, resolve, invoke, builtin, hv, hvy, Builtin.append_, run_underlying hu, sizeOf, typeInfo, hi, hs, Builtin.lenOf, hroom, hf, Addr.add_lit, hrun]
    · refine Rd.lst' (us := us2.take (l ++ m).length) (by simp) (by simp; omega) i2 (fun y hy => ?_) ?_ (fun j u hu => ?_) (fun t ht => by cases ht)
      · obtain ⟨q, _, rfl⟩ := List.mem_map.1 hy
        rfl
      · rw [flat_encY]
        have := (f5.take (l ++ m).length).mono hl2
        rwa [List.take_left' (by simp)] at this
      · rw [List.getElem?_take] at hu
        split at hu
        · rename_i hj
          refine ⟨_, rfl, ?_, ?_, ?_⟩
          · rw [add_off]; simp [Gh.stab]; simpa using hj
          · exact cells_at f4 0 j (by simpa using hu)
          · have hjl : j < ((l ++ m).map encY).length := by simpa using hj
            have h7 : ((l ++ m).map encY ++ R.drop m.length)[j]? = some (encY ((l ++ m)[j]'(by simpa using hj))) := by
              rw [List.getElem?_append_left hjl, List.getElem?_map, List.getElem?_eq_getElem (by simpa using hj)]
              rfl
            exact one_cell (f5.2 j _ u h7 hu) rfl
        · cases hu
  · have hus0 : ∀ (j : Nat) (u : Value), (us.take l.length)[j]? = some u → w.cell? ((⟨b, 0, none⟩ : Addr).add j) = some u := fun j u hj => by
      rw [List.getElem?_take] at hj
      split at hj
      · exact cells_at e4 0 j (by simpa using hj)
      · cases hj
    have htl : (us.take l.length).length = l.length := by rw [List.length_take]; omega
    have hrun := run_append_grow (P := P) w t o.type e i z hu hi hz ⟨b, 0, none⟩ l.length (l.length + R.length) (us.take l.length) (by rw [htl, hs, Nat.mul_one]) hus0 ad' m.length c' us' (by rw [hul, hs, Nat.mul_one]) hnews (by omega) (by omega) (growslice_fits (by omega) (by rw [hby]; exact hb))
    have hcap := grownCap_ge w (l.length + m.length) (l.length + R.length) e
    have hcm := grownCap_le_maxLen w (l.length + m.length) (l.length + R.length) e (by simp only [maxLen]; omega)
    generalize grownCap w (l.length + m.length) (l.length + R.length) e = cap at hrun hcap hcm
    generalize hrest : Builtin.zeroCells z.cells (cap - (l.length + m.length)) = rest at hrun
    have hl1 := Le.drew g w
    have hl2 := Le.alloc_stab hr.drew (.cells ((us.take l.length).toArray ++ us'.toArray ++ rest) e) (l ++ m).length
    have hr2 := (hr.drew.alloc_stab (.cells ((us.take l.length).toArray ++ us'.toArray ++ rest) e) (l ++ m).length).gone id
    have hheap : (w.drew.alloc (.cells ((us.take l.length).toArray ++ us'.toArray ++ rest) e)).heap[w.heap.size]? = some (.cells ((us.take l.length).toArray ++ us'.toArray ++ rest) e (0, 0)) := heap_new w.drew _
    refine ⟨.slice (some ⟨w.heap.size, 0, none⟩) (l.length + m.length) cap, _, ?_, ⟨_, _, _, hK, hr2, ?_, hl1.trans hl2⟩⟩
    · simp [execOp, ho, resolve, invoke, builtin, hv, hvy, hrun]
    · have hrds : Rds g w ((l ++ m).map encY) (us.take l.length ++ us') := by
        rw [List.map_append]
        have := e5.take l.length
        rw [List.take_left' (by simp)] at this
        exact this.append k4
      refine Rd.lst' (us := us.take l.length ++ us') (by simp) hcap hcm (fun y hy => ?_) ?_ (fun j u hu => ?_) (fun t ht => by cases ht)
      · obtain ⟨q, _, rfl⟩ := List.mem_map.1 hy
        rfl
      · rw [flat_encY]
        exact hrds.mono (hl1.trans hl2)
      · have hjl : j < (us.take l.length ++ us').length := (List.getElem?_eq_some_iff.1 hu).1
        have hjl2 : j < (l ++ m).length := by rw [List.length_append, htl, hul] at hjl; simpa using hjl
        refine ⟨_, rfl, ?_, ?_, ?_⟩
        · rw [add_off]
          simp only [Gh.stab]
          have : (if w.heap.size = w.drew.heap.size then (l ++ m).length else g.st w.heap.size) = (l ++ m).length := if_pos rfl
          rw [this]
          omega
        · rw [add_off]
          simp only [World.cell?, hheap]
          simp only [Nat.zero_add, Option.isSome_none, Bool.false_eq_true, if_false]
          rw [show (us.take l.length).toArray ++ us'.toArray ++ rest = (us.take l.length ++ us' ++ rest.toList).toArray by apply Array.ext'; simp]
          rw [List.getElem?_toArray, List.getElem?_append_left hjl]
          exact hu
        · have h7 : ((l ++ m).map encY)[j]? = some (encY ((l ++ m)[j]'hjl2)) := by
            rw [List.getElem?_map, List.getElem?_eq_getElem hjl2]
            rfl
          exact one_cell (hrds.2 j _ u h7 hu) rfl
end
end Go.MV
end
section
set_option linter.unusedVariables false
set_option linter.unusedSimpArgs false
set_option maxRecDepth 20000
set_option maxHeartbeats 400000
namespace Go.Proofs.Ythkikhggmbiffaa
open Go Go.MV Go.RowKit
theorem u8_or128 {c : UInt8} (h : c.toNat < 128) : (c ||| 128).toNat = c.toNat + 128 := by
 rw [UInt8.toNat_or]
 have h1 : c.toNat ||| 128 = 128 + c.toNat := by
  have := Nat.two_pow_add_eq_or_of_lt (i := 7) (b := c.toNat) (by omega) 1
  rw [Nat.or_comm]
  simpa using this.symm
 show c.toNat ||| 128 = _
 omega
theorem or_u8 (c : UInt8) : bitsI .or .u8 (c.toNat : Int) 128 = some (((c ||| 128).toNat : Nat) : Int) := by
 have hc := c.toNat_lt
 have hy := (c ||| 128).toNat_lt
 show some (IntKind.u8.wrap ((BitVec.ofInt 8 (c.toNat : Int) ||| BitVec.ofInt 8 ((128 : Nat) : Int)).toNat : Int)) = _
 simp only [BitVec.ofInt_natCast, BitVec.toNat_or, BitVec.toNat_ofNat]
 rw [Nat.mod_eq_of_lt hc, Nat.mod_eq_of_lt (by decide)]
 have e : c.toNat ||| 128 = (c ||| 128).toNat := by rw [UInt8.toNat_or]; rfl
 rw [e, wrap_u8 (by omega)]
theorem scan_over : ∀ (m n i : Nat) (c : UInt8), m * 2 ^ (7 * i) < 18446744073709551616 → (0 < i → 0 < m) → (numB m)[(numB m).length - 1]? = some c → numScan n i ((numB m).set ((numB m).length - 1) (c ||| 128) ++ [0]) = .error 10 := by
 intro m
 induction m using Nat.strongRecOn with
 | _ m ih =>
  intro n i c h hm hc
  have hi := pow7_lt h hm
  by_cases hlt : m < 128
  ·rw [numB_lo hlt] at hc ⊢
   simp at hc
   have hct : c.toNat = m := by rw [← hc, u8_toNat (by omega)]
   have hor := u8_or128 (c := c) (by omega)
   show numScan n i [c ||| 128, 0] = _
   rw [numScan, hor, show (c.toNat + 128) % 128 = c.toNat by omega, hct, if_neg, if_neg (by omega), numScan, if_pos]
   ·right; right; exact ⟨by omega, rfl⟩
   ·rintro (h1 | h1 | ⟨h1, h2⟩)
    ·exact hi h1
    ·omega
    ·have := congrArg UInt8.toNat h2
     rw [hor] at this
     simp at this
  ·have hb : m % 128 + 128 < 256 := by omega
   have e : (m % 128 + 128) % 128 = m % 128 := by omega
   have hle : m % 128 * 2 ^ (7 * i) ≤ m * 2 ^ (7 * i) := Nat.mul_le_mul_right _ (Nat.mod_le _ _)
   have hdm : m / 128 * 2 ^ (7 * (i + 1)) + m % 128 * 2 ^ (7 * i) = m * 2 ^ (7 * i) := by
    rw [pow7, ← Nat.mul_assoc, ← Nat.add_mul]
    congr 1
    omega
   have hp : 1 ≤ (numB (m / 128)).length := by
    by_cases h2 : m / 128 < 128
    ·rw [numB_lo h2]; simp
    ·rw [numB_hi h2]; simp
   obtain ⟨q, hq⟩ : ∃ q, (numB (m / 128)).length = q + 1 := ⟨_, (Nat.sub_add_cancel hp).symm⟩
   rw [numB_hi hlt, List.length_cons, Nat.add_sub_cancel, hq] at hc ⊢
   rw [List.getElem?_cons_succ] at hc
   rw [List.set_cons_succ, List.cons_append, numScan, u8_toNat hb, e, if_neg, if_neg (by omega)]
   ·have := ih (m / 128) (by omega) (n + m % 128 * 2 ^ (7 * i)) (i + 1) c (by omega) (by omega) (by rw [hq, Nat.add_sub_cancel]; exact hc)
    rwa [hq, Nat.add_sub_cancel] at this
   ·rintro (h1 | h1 | ⟨h1, h2⟩)
    ·exact hi h1
    ·omega
    ·rw [u8_is0 hb] at h2
     omega
def bigB : Bs := [255, 255, 255, 255, 255, 255, 255, 255, 255, 2]
theorem big_err : flatM 1 (bigB, none) = (.mk 0 0 [] [] [], (bigB, some 10)) := by rfl
theorem flat1_good (n : Nat) (hn : n < 18446744073709551616) : flatM 1 (numB n, none) = (.mk (n : Int) 0 [] [] [], ([], none)) := by
 have := num_back n [] hn
 rw [List.append_nil] at this
 rw [flatM, if_neg (by decide), this]
theorem flat1_over (n : Nat) (hn : n < 18446744073709551616) {c : UInt8} (hc : (numB n)[(numB n).length - 1]? = some c) : flatM 1 ((numB n).set ((numB n).length - 1) (c ||| 128) ++ [0], none) = (.mk 0 0 [] [] [], ((numB n).set ((numB n).length - 1) (c ||| 128) ++ [0], some 10)) := by
 rw [flatM, if_neg (by decide), num_bad (scan_over n 0 0 c (by simpa using hn) (by omega) hc)]
 rfl
theorem isF1 : isF 16 (.mk 1 []) = true := by decide
theorem fit1 (n : Int) : (isF 16 (.mk 1 []) && isVF (.mk 1 []) (.mk n 0 [] [] [])) = true := by
 rw [isF1, Bool.true_and, isVF]
 rfl
theorem numB_pos (m : Nat) : 1 ≤ (numB m).length := by
 by_cases h2 : m < 128
 ·rw [numB_lo h2]; simp
 ·rw [numB_hi h2]; simp
theorem set_lastS {S : MS} {a b : MObj} : (S ++ [a]).set S.length b = S ++ [b] := by simp
theorem of9_spec (k : Int) (S : MS) : MCalls Try.prog 9 [.int .i64 k, .lst0] S fun v σ' => v = encS (.mk k []) ∧ σ' = S := by
 refine mcalls_body Try.func9 rfl Try.ntmps9 (Nat.le_of_ble_eq_true rfl) ?_
 refine mwp_seq <| qR rfl <| qO rfl <| op_alloc' rfl zm36 rfl rfl <| qN <| mwp_seq <| qR rfl <| qM rfl rfl rfl <| qM rfl rfl rfl <| qO rfl <| op_build rfl Try.underlying36 zm36 (.cons fo36_0 sz3 rfl rfl (Nat.le_of_ble_eq_true rfl) (.cons fo36_1 sz34 rfl rfl (Nat.le_of_ble_eq_true rfl) .nil)) (by kernel_rfl) ?_
 refine qO rfl <| op_store' rfl rfl rfl rfl sz36 rfl rfl (Nat.le_of_ble_eq_true rfl) rfl <| qN <| mwp_ret ?_
 exact ret_cell (y := encS (.mk k [])) (.inr rfl) Try.results9 rfl rfl ta36 rfl (.agg (.cons (.refl _) (.cons (.nil 2) .nil))) (cl_encS _ _) ⟨rfl, rfl⟩
theorem CodeNumbers_spec (n : Nat) (hn : n < 18446744073709551616) (S : MS) : MCalls Try.prog 3 [.int .u64 (n : Int)] S fun v σ' => v = .bool true ∧ σ' = S := by
 have hnb := numB_len10 9 n (by omega)
 refine mcalls_body Try.func3 rfl Try.ntmps3 (Nat.le_of_ble_eq_true rfl) ?_
 refine mwp_seq <| qR rfl <| qA rfl rfl rfl <| qN <| mwp_seq <| mwp_seq <| qR rfl ?_
 refine wOps_op rfl (op_call rfl rfl rfl co6 ((known9_spec _).mono ?_))
 rintro _ _ ⟨rfl, rfl⟩
 refine qO rfl <| op_not rfl rfl <| qN <| mwp_cond_f rfl (rfl) <| mwp_skip <| mwp_seq <| qR rfl <| qM rfl rfl rfl ?_
 refine wOps_op rfl (op_call rfl rfl rfl co7 ((codeNum_spec n hn (by omega) _).mono ?_))
 rintro _ _ ⟨rfl, rfl⟩
 refine qA rfl rfl rfl <| qN <| mwp_seq <| qR rfl <| qM rfl rfl rfl <| qA rfl rfl rfl <| qA rfl rfl rfl <| qN <| mwp_seq <| mwp_block ?_
 refine mwp_loopK (α := Nat × Nat) [(0, _), (3, _)] (fun x => [(4, .int .i64 (x.1 : Int)), (5, .int .u64 (x.2 : Int))]) (fun x => []) (fun x => x.1 + (numB x.2).length = (numB n).length + 1 ∧ x.2 ≤ n) (fun x => x.2) (⟨1, n⟩) (.keep rfl (.keep rfl (.nil))) (.keep rfl (.keep rfl (.nil))) (⟨by dsimp only; omega, Nat.le_refl _⟩) (rfl) ?_
 rintro ⟨q, k⟩ ⟨hq, hk⟩
 dsimp only at hq hk ⊢
 refine mwp_seq <| mwp_seq <| qR rfl <| qM rfl rfl rfl <| qC rfl rfl rfl rfl rfl <| qN ?_
 refine mwp_cond_split rfl (fun h22 => ?_) (fun h22 => ?_)
 ·
  have hge : 128 ≤ k := by simp at h22; omega
  refine mwp_skip <| mwp_block <| mwp_seq <| qR rfl <| qM rfl rfl rfl <| qO rfl <| op_quo rfl rfl rfl (by decide) (quo128 (by omega)) ?_
  refine qA rfl rfl rfl <| qN <| qR rfl <| qM rfl rfl rfl <| qO rfl <| op_arith rfl rfl rfl (wadd (a := q) (b := 1) rfl (by omega)) ?_
  refine qA rfl rfl rfl <| qN ?_
  refine ⟨⟨q + 1, k / 128⟩, by dsimp only; omega, ⟨by dsimp only; rw [numB_hi (by omega), List.length_cons] at hq; omega, by dsimp only; omega⟩, rfl, (.keep rfl (.keep rfl (.nil))), (.eq rfl (rfl) (.eq rfl (rfl) (.nil)))⟩
 ·
  have hlt : k < 128 := by simp at h22; omega
  have hw : (numB n).length = q := by rw [numB_lo hlt, List.length_singleton] at hq; omega
  refine mwp_exit <| mwp_seq <| mwp_seq <| qR rfl <| qM rfl rfl rfl <| qO rfl <| op_len_bs rfl Try.underlying9 rfl <| qM rfl rfl rfl <| qC rfl rfl rfl rfl rfl <| qN <| mwp_cond_f rfl (by simp [hw]) ?_
  refine mwp_skip <| mwp_seq <| qR rfl ?_
  refine wOps_op rfl (op_call rfl rfl rfl co9 ((of9_spec 1 _).mono ?_))
  rintro _ _ ⟨rfl, rfl⟩
  refine qM rfl rfl rfl ?_
  refine wOps_op rfl (op_call rfl rfl rfl co8 ((read_good 1 [] isF1 (fun id => flat_reads 1 [] (.inl rfl) id) (numB n) [] (by omega) n 0 [] [] [] (flat1_good n hn) (by simp [okV, okVs]; omega) (fit1 n) _).mono ?_))
  rintro _ _ ⟨rfl, rfl⟩
  refine qM rfl rfl rfl <| qO rfl <| op_extract rfl rfl rfl <| qO rfl <| op_extract rfl rfl rfl <| qO rfl <| op_extract rfl rfl rfl <| qO rfl <| op_alloc' rfl zm29 rfl rfl <| qO rfl <| op_store' rfl rfl rfl rfl sz29 rfl rfl (Nat.le_of_ble_eq_true rfl) rfl <| qA rfl rfl rfl <| qA rfl rfl rfl <| qN <| mwp_seq ?_
  show mwp _ _ _ _ _ _ _ (S ++ [MObj.cells (encV (.mk (n : Int) 0 [] [] [])).cells])
  obtain ⟨S1, hS1⟩ : ∃ S1, S1 = S ++ [MObj.cells (encV (.mk (n : Int) 0 [] [] [])).cells] := ⟨_, rfl⟩
  rw [← hS1]
  refine qR rfl <| qM rfl rfl rfl <| qO rfl <| op_conv_tobytes rfl Try.underlying9 Try.underlying38 Try.underlying5 rfl (by simp only [maxLen]; omega) ?_
  intro k0
  have hnp := numB_pos n
  have hql : (numB n).length - 1 < (numB n).length := by omega
  obtain ⟨c, hs⟩ : ∃ q_, (numB n)[(numB n).length - 1]? = some q_ := ⟨_, List.getElem?_eq_getElem hql⟩
  refine qA rfl rfl rfl <| qN <| mwp_seq <| qR rfl <| qM rfl rfl rfl <| qM rfl rfl rfl <| qO rfl <| op_len_vec rfl Try.underlying38 rfl <| qO rfl <| op_arith rfl rfl rfl (wsub (a := (numB n).length) (b := 1) (c := (numB n).length - 1) (by omega) (by omega)) ?_
  refine qM rfl rfl rfl <| qM rfl rfl rfl <| qO rfl <| op_len_vec rfl Try.underlying38 rfl <| qO rfl <| op_arith rfl rfl rfl (wsub (a := (numB n).length) (b := 1) (c := (numB n).length - 1) (by omega) (by omega)) ?_
  refine qO rfl <| op_indexAddr_vec rfl Try.underlying38 sz5 rfl rfl rfl hql <| qO rfl <| op_load_ref rfl rfl (by simp : (S1 ++ [MObj.cells ((numB n).map encY ++ List.replicate k0 (.int .u8 0))])[S1.length]? = some (.cells ((numB n).map encY ++ List.replicate k0 (.int .u8 0)))) ta5 (bytes_get hs) ?_
  refine qO rfl <| op_bits rfl rfl rfl (or_u8 c) <| qO rfl <| op_indexAddr_vec rfl Try.underlying38 sz5 rfl rfl rfl hql <| qO rfl <| op_store rfl rfl rfl (by simp : (S1 ++ [MObj.cells ((numB n).map encY ++ List.replicate k0 (.int .u8 0))])[S1.length]? = some (.cells ((numB n).map encY ++ List.replicate k0 (.int .u8 0)))) sz5 rfl rfl (by simp; omega) ?_
  have hst2 : (S1 ++ [MObj.cells ((numB n).map encY ++ List.replicate k0 (.int .u8 0))]).set S1.length (.cells (setMany ((numB n).map encY ++ List.replicate k0 (.int .u8 0)) (0 + ((numB n).length - 1) * 1) (MV.int .u8 ((c ||| 128).toNat : Int)).cells)) = S1 ++ [MObj.cells (((numB n).set ((numB n).length - 1) (c ||| 128)).map encY ++ List.replicate k0 (.int .u8 0))] := by
   rw [show (MV.int .u8 ((c ||| 128).toNat : Int)).cells = [MV.int .u8 ((c ||| 128).toNat : Int)] from rfl, bytes_set hql]
   simp
  rw [hst2]
  refine qN <| mwp_seq <| qR rfl ?_
  refine wOps_op rfl (op_call rfl rfl rfl co9 ((of9_spec 1 _).mono ?_))
  rintro _ _ ⟨rfl, rfl⟩
  refine qM rfl rfl rfl <| qO rfl <| op_buildSlice rfl Try.underlying38 el5 rfl rfl (by decide) (by decide) rfl rfl ?_
  refine qO rfl <| op_append_vec (l := (numB n).set ((numB n).length - 1) (c ||| 128)) (m := [0]) (R := List.replicate k0 (.int .u8 0)) (by simp) rfl Try.underlying38 el5 (by rw [List.length_set, List.length_replicate]; rfl) rfl (by simp : (S1 ++ [MObj.cells (((numB n).set ((numB n).length - 1) (c ||| 128)).map encY ++ List.replicate k0 (.int .u8 0))])[S1.length]? = some (.cells (((numB n).set ((numB n).length - 1) (c ||| 128)).map encY ++ List.replicate k0 (.int .u8 0)))) (by simp; omega) (by simp; omega) ?_
  rw [set_lastS, hS1, List.append_assoc]
  refine qO rfl <| op_conv_bytes (l := (numB n).set ((numB n).length - 1) (c ||| 128) ++ [0]) rfl Try.underlying38 Try.underlying5 Try.underlying9 rfl (rfl) ?_
  refine wOps_op rfl (op_call rfl rfl rfl co8 ((read_err 1 [] isF1 (fun id => flat_reads 1 [] (.inl rfl) id) ((numB n).set ((numB n).length - 1) (c ||| 128) ++ [0]) _ (by simp; omega) 0 0 [] [] [] 10 (flat1_over n hn hs) _).mono ?_))
  rintro _ _ ⟨rfl, rfl⟩
  refine qM rfl rfl rfl <| qO rfl <| op_extract rfl rfl rfl <| qO rfl <| op_extract rfl rfl rfl <| qO rfl <| op_extract rfl rfl rfl <| qO rfl <| op_alloc' rfl zm29 rfl rfl <| qO rfl <| op_store' rfl rfl rfl rfl sz29 rfl rfl (Nat.le_of_ble_eq_true rfl) rfl <| qA rfl rfl rfl <| qA rfl rfl rfl <| qN <| mwp_seq <| qR rfl ?_
  refine wOps_op rfl (op_call rfl rfl rfl co9 ((of9_spec 1 _).mono ?_))
  rintro _ _ ⟨rfl, rfl⟩
  refine wOps_op rfl (op_call rfl rfl rfl co8 ((read_err 1 [] isF1 (fun id => flat_reads 1 [] (.inl rfl) id) bigB _ (by decide) 0 0 [] [] [] 10 big_err _).mono ?_))
  rintro _ _ ⟨rfl, rfl⟩
  refine qM rfl rfl rfl <| qO rfl <| op_extract rfl rfl rfl <| qO rfl <| op_extract rfl rfl rfl <| qO rfl <| op_extract rfl rfl rfl <| qO rfl <| op_alloc' rfl zm29 rfl rfl <| qO rfl <| op_store' rfl rfl rfl rfl sz29 rfl rfl (Nat.le_of_ble_eq_true rfl) rfl <| qA rfl rfl rfl <| qA rfl rfl rfl <| qN <| mwp_seq <| qR rfl <| qM rfl rfl rfl <| qO rfl <| op_if0 rfl Try.underlying31 rfl rfl (.inl ⟨rfl, rfl⟩) <| qM rfl rfl rfl <| qM rfl rfl rfl <| qO rfl <| op_strcmp rfl rfl rfl rfl <| qP rfl rfl rfl rfl ?_
  refine qM rfl rfl rfl <| qF rfl rfl rfl fo29_0 <| qL rfl rfl rfl rfl ta22 rfl <| qM rfl rfl rfl <| qO rfl <| op_viewTo (y := .bool true) (op_cmp rfl rfl rfl rfl ⟨rfl, rfl⟩) (.of_eq (congrArg MV.bool (beq_self_eq_true _))) <| qP rfl rfl rfl rfl <| qM rfl rfl rfl <| qM rfl rfl rfl <| qO rfl <| op_makeInterface rfl rfl Try.underlying40 (by simp) ?_
  refine wOps_op rfl (op_call rfl rfl rfl co10 ((errIs_spec 10 _).mono ?_))
  rintro _ _ ⟨rfl, rfl⟩
  refine qP rfl rfl rfl rfl <| qM rfl rfl rfl <| qM rfl rfl rfl <| qO rfl <| op_makeInterface rfl rfl Try.underlying40 (by simp) ?_
  refine wOps_op rfl (op_call rfl rfl rfl co10 ((errIs_spec 10 _).mono ?_))
  rintro _ _ ⟨rfl, rfl⟩
  refine qP rfl rfl rfl rfl <| qA rfl rfl rfl <| qN <| mwp_ret ?_
  exact ret_tmp (.inr rfl) Try.results3 rfl (.of_eq (rfl)) (.bool _) ⟨rfl, rfl⟩
end Go.Proofs.Ythkikhggmbiffaa
end
section
set_option linter.unusedVariables false
set_option linter.unusedSimpArgs false
namespace Go.MV
open Go Go.RowKit Go.ChangeShapes Go.WideShapes Go.Deep
def g0 (W : World) : Gh := { B := W.heap.size, w0 := W, st := fun b => match W.heap[b]? with | some (.cells c _ _) => c.size | _ => 0, bk := fun _ => none, lg := fun _ _ => none }
theorem rel0 (W : World) : Rel (g0 W) [] W := by
  refine ⟨.refl _ _, Nat.le_refl _, fun b hb => ?_, fun _ _ => rfl, fun _ _ _ => rfl, fun _ => none, ⟨fun id o h => (by simp at h), fun i j b h => (by cases h), fun id b h => (by cases h)⟩⟩
  show (match W.heap[b]? with | some (.cells c _ _) => c.size | _ => 0) = 0
  rw [Array.getElem?_eq_none hb]
theorem stab0 {W : World} {ad : Addr} {k : Nat} {v : Value} (h : W.cell? (ad.add k) = some v) (h1 : v.oneCell' = true) : Stab (g0 W) W ad k v := by
  refine ⟨?_, h, h1⟩
  have e := cell_spot h
  rw [e] at h
  show _ < (match W.heap[(ad.add k).block]? with | some (.cells c _ _) => c.size | _ => 0)
  unfold World.cell? at h
  split at h
  · rename_i c t f hc
    simp only [Option.isSome_none, Bool.false_eq_true, if_false] at h
    simp only at hc
    rw [hc]
    exact (Array.getElem?_eq_some_iff.1 h).1
  · cases h
def TyFs (T : TypeId → List MV → Prop) : List Field → List MV → Prop
  | [], l => l = []
  | f :: fs, l => ∃ a b, l = a ++ b ∧ T f.type a ∧ TyFs T fs b
def ElF (P : Program) (e : TypeId) (x : MV) : Prop := match P.underlying e with | some (.struct _) => x = .agg x.cells | _ => [x] = x.cells
def TyM (P : Program) : Nat → TypeId → List MV → Prop
  | 0, _, _ => False
  | n + 1, t, l =>
    match P.underlying t with
    | some (.int k) => ∃ v, l = [.int k v] ∧ (Lit.int k v).wf = true
    | some .bool => ∃ b, l = [.bool b]
    | some .string => ∃ s, l = [.str s] ∧ s.size ≤ maxLen
    | some (.slice e) => ∃ xs, l = [.lst none (P.cellsOf e) xs] ∧ ∀ x ∈ xs, x.cells.length = P.cellsOf e ∧ TyM P n e x.cells ∧ ElF P e x
    | some (.struct fs) => TyFs (TyM P n) fs.toList l
    | _ => False
def contig (P : Program) (size : Nat) : List Field → Nat → Bool
  | [], off => Nat.beq off size
  | f :: fs, off => Nat.beq f.offset off && contig P size fs (off + P.cellsOf f.type)
def okTypes (P : Program) (ts : List TypeId) : Bool :=
  ts.all fun t => match P.underlying t with
    | some (.int _) | some .bool | some .string => true
    | some (.slice e) => natMem e ts && (match P.underlying e with | some (.struct _) => true | _ => Nat.beq (P.cellsOf e) 1)
    | some (.struct fs) => fs.toList.all (fun f => natMem f.type ts) && contig P (P.cellsOf t) fs.toList 0
    | _ => false
theorem rds_of_fields {P : Program} {W : World} {T : TypeId → List MV → Prop} {cs : List Value} {size : Nat} (hlen : cs.length = size) : ∀ (fs : List Field) (off : Nat), contig P size fs off = true →
    (∀ f ∈ fs, ∃ l, Rds (g0 W) W l ((cs.drop f.offset).take (P.cellsOf f.type)) ∧ T f.type l ∧ l.length = P.cellsOf f.type ∧ ∀ y ∈ l, y.one = true) → ∃ l, Rds (g0 W) W l (cs.drop off) ∧ TyFs T fs l ∧ ∀ y ∈ l, y.one = true
  | [], off, hc, _ => by
    have := Nat.eq_of_beq_eq_true hc
    refine ⟨[], ?_, rfl, fun y hy => by cases hy⟩
    rw [List.drop_eq_nil_of_le (by omega)]
    exact .nil _ _
  | f :: fs, off, hc, h => by
    simp only [contig, Bool.and_eq_true] at hc
    have ho := Nat.eq_of_beq_eq_true hc.1
    obtain ⟨a, h1, h2, h3, h5⟩ := h f (List.mem_cons_self ..)
    obtain ⟨b, k1, k2, k3⟩ := rds_of_fields hlen fs _ hc.2 (fun f' hf' => h f' (List.mem_cons_of_mem _ hf'))
    refine ⟨a ++ b, ?_, ⟨a, b, rfl, h2, k2⟩, fun y hy => (List.mem_append.1 hy).elim (h5 y) (k3 y)⟩
    have e : cs.drop off = (cs.drop off).take (P.cellsOf f.type) ++ cs.drop (off + P.cellsOf f.type) := by
      rw [← List.drop_drop, List.take_append_drop]
    rw [e]
    rw [ho] at h1
    exact h1.append k1
theorem tyFs_mono {T T' : TypeId → List MV → Prop} (h : ∀ t l, T t l → T' t l) : ∀ (fs : List Field) (l : List MV), TyFs T fs l → TyFs T' fs l
  | [], l, hl => hl
  | f :: fs, l, ⟨a, b, e, h1, h2⟩ => ⟨a, b, e, h _ _ h1, tyFs_mono h fs b h2⟩
theorem tyM_succ {P : Program} : ∀ (n : Nat) (t : TypeId) (l : List MV), TyM P n t l → TyM P (n + 1) t l
  | 0, t, l, h => h.elim
  | n + 1, t, l, h => by
    unfold TyM at h ⊢
    split at h
    · rename_i k hu; exact h
    · rename_i hu; exact h
    · rename_i hu; exact h
    · rename_i e hu
      obtain ⟨xs, h1, h2⟩ := h
      exact ⟨xs, h1, fun x hx => ⟨(h2 x hx).1, tyM_succ n _ _ (h2 x hx).2.1, (h2 x hx).2.2⟩⟩
    · rename_i fs hu; exact tyFs_mono (tyM_succ n) _ _ h
    · exact h.elim
theorem tyM_le {P : Program} {n m : Nat} (h : n ≤ m) {t : TypeId} {l : List MV} (ht : TyM P n t l) : TyM P m t l := by
  obtain ⟨d, rfl⟩ := Nat.le.dest h
  induction d with
  | zero => exact ht
  | succ d ih => exact tyM_succ _ _ _ (ih (by omega))
section
variable {H : Type} {enc : TypeId × Value → H} {P : Program} {W : World} {base : Nat} {spare : Nat → Bool} {held : Bool}
theorem common_bound {α : Type} {p : Nat → α → Prop} (hm : ∀ n m a, n ≤ m → p n a → p m a) : ∀ (l : List α), (∀ a ∈ l, ∃ n, p n a) → ∃ n, ∀ a ∈ l, p n a
  | [], _ => ⟨0, fun a h => by cases h⟩
  | a :: l, h => by
    obtain ⟨n, hn⟩ := h a (List.mem_cons_self ..)
    obtain ⟨m, hm'⟩ := common_bound hm l (fun b hb => h b (List.mem_cons_of_mem _ hb))
    refine ⟨max n m, fun b hb => ?_⟩
    rcases List.mem_cons.1 hb with rfl | hb
    · exact hm _ _ _ (by omega) hn
    · exact hm _ _ _ (by omega) (hm' b hb)
theorem reads_gen {ts : List TypeId} (hok : okTypes P ts = true) : ∀ (n : Nat) (x : DataW H × List MemPlace) (fuel : Nat) (t : TypeId) (cs : List Value), SizeOf.sizeOf x.1 ≤ n → t ∈ ts → DataW.trod enc P W base spare held fuel t cs = some x →
    ∃ (l : List MV) (m : Nat), Rds (g0 W) W l cs ∧ TyM P m t l ∧ ∀ y ∈ l, y.one = true := by
  intro n
  induction n using Nat.strongRecOn with
  | _ n ih =>
  intro x fuel t cs hx ht h
  have hot : (match P.underlying t with
    | some (.int _) | some .bool | some .string => true
    | some (.slice e) => natMem e ts && (match P.underlying e with | some (.struct _) => true | _ => Nat.beq (P.cellsOf e) 1)
    | some (.struct fs) => fs.toList.all (fun f => natMem f.type ts) && contig P (P.cellsOf t) fs.toList 0
    | _ => false) = true := by
    simp only [okTypes, List.all_eq_true] at hok
    exact hok t ht
  split at hot
  · rename_i k hu
    obtain ⟨v, rfl, rfl, hwf⟩ := DataW.trod_int hu h
    refine ⟨[.int k v], 1, .cons (.int _ _) (.nil _ _), ?_, by simp [MV.one]⟩
    unfold TyM
    rw [hu]
    exact ⟨v, rfl, hwf⟩
  · rename_i hu
    obtain ⟨b, rfl, rfl⟩ := DataW.trod_bool hu h
    refine ⟨[.bool b], 1, .cons (.bool _) (.nil _ _), ?_, by simp [MV.one]⟩
    unfold TyM
    rw [hu]
    exact ⟨b, rfl⟩
  · rename_i hu
    obtain ⟨s, rfl, rfl, hs⟩ := DataW.trod_string hu h
    refine ⟨[.str s], 1, .cons (.str _) (.nil _ _), ?_, by simp [MV.one]⟩
    unfold TyM
    rw [hu]
    exact ⟨s, rfl, hs⟩
  · rename_i e hu
    simp only [Bool.and_eq_true] at hot
    have he : e ∈ ts := natMem_iff.1 hot.1
    rcases open_slice hu h with ⟨rfl, rfl⟩ | ⟨a, len, cap, m, n', D, Pl, rfl, hb, hl, hm, hmm, rfl, hi⟩
    · refine ⟨[.lst none (P.cellsOf e) []], 1, .cons (Sub.nil _ _ _ _ .lst0) (.nil _ _), ?_, by simp [MV.one]⟩
      unfold TyM
      rw [hu]
      exact ⟨[], rfl, fun x hx => by cases hx⟩
    · have hlm : len ≤ m := by rw [hmm]; split <;> omega
      have hel : ∀ i, i < len → ∃ (l : List MV) (k : Nat) (us : List Value), us.length = P.cellsOf e ∧ Rds (g0 W) W l us ∧ TyM P k e l ∧ (∀ y ∈ l, y.one = true) ∧ ∀ j, j < P.cellsOf e → W.cell? ((a.add (i * P.cellsOf e)).add j) = us[j]? := by
        intro i hil
        obtain ⟨cs', hc, ht'⟩ := hi i (by omega)
        obtain ⟨_, hlen, hcell⟩ := World.cells?_some hc
        have hsz : SizeOf.sizeOf (D i) < n := by
          have hmem : D i ∈ (List.range len).map D := List.mem_map.2 ⟨i, List.mem_range.2 hil, rfl⟩
          have := List.sizeOf_lt_of_mem hmem
          simp only [DataW.slice.sizeOf_spec] at hx
          omega
        obtain ⟨l, k, h1, h2, h3⟩ := ih _ hsz (D i, Pl i) n' e cs' (Nat.le_refl _) he ht'
        exact ⟨l, k, cs', hlen, h1, h2, h3, hcell⟩
      have hall : ∀ (N : Nat), N ≤ len → ∃ (xs : List MV) (us : List Value) (k : Nat), xs.length = N ∧ us.length = N * P.cellsOf e ∧ Rds (g0 W) W (flat xs) us ∧ (∀ y ∈ flat xs, y.one = true) ∧ (∀ x ∈ xs, x.cells.length = P.cellsOf e ∧ TyM P k e x.cells ∧ ElF P e x) ∧
          ∀ j, j < N * P.cellsOf e → W.cell? (a.add j) = us[j]? := by
        intro N
        induction N with
        | zero => exact fun _ => ⟨[], [], 0, rfl, by simp, .nil _ _, by simp [flat], by simp, by simp⟩
        | succ N ihN =>
          intro hN
          obtain ⟨xs, us, k, q1, q2, q3, q4, q5, q6⟩ := ihN (by omega)
          obtain ⟨l, k', us', r1, r2, r3, r4, r5⟩ := hel N (by omega)
          have hll : l.length = P.cellsOf e := by rw [← r2.1, r1]
          obtain ⟨y, hy1, hy2⟩ : ∃ y : MV, y.cells = l ∧ ElF P e y := by
            cases hue : P.underlying e with
            | none => 
              have hk1 : P.cellsOf e = 1 := by have := hot.2; rw [hue] at this; exact Nat.eq_of_beq_eq_true this
              match l, hll.trans hk1 with
              | [y], _ =>
                have := r4 y (List.mem_cons_self ..)
                simp only [ElF, hue]
                refine ⟨y, ?_, ?_⟩ <;> (cases y <;> first | rfl | (cases this; done))
            | some d =>
              cases d with
              | struct fs => exact ⟨.agg l, rfl, by simp only [ElF, hue]; rfl⟩
              | _ =>
                have hk1 : P.cellsOf e = 1 := by have := hot.2; rw [hue] at this; exact Nat.eq_of_beq_eq_true this
                match l, hll.trans hk1 with
                | [y], _ =>
                  have := r4 y (List.mem_cons_self ..)
                  simp only [ElF, hue]
                  refine ⟨y, ?_, ?_⟩ <;> (cases y <;> first | rfl | (cases this; done))
          refine ⟨xs ++ [y], us ++ us', max k k', by simp [q1], by rw [List.length_append, q2, r1, Nat.add_mul]; omega, ?_, ?_, ?_, ?_⟩
          · rw [flat_append]
            refine q3.append ?_
            simp only [flat, List.flatMap_cons, List.flatMap_nil, List.append_nil, hy1]
            exact r2
          · intro z hz
            rw [flat_append, List.mem_append] at hz
            rcases hz with hz | hz
            · exact q4 z hz
            · simp only [flat, List.flatMap_cons, List.flatMap_nil, List.append_nil, hy1] at hz
              exact r4 z hz
          · intro x hx
            rcases List.mem_append.1 hx with hx | hx
            · exact ⟨(q5 x hx).1, tyM_le (by omega) (q5 x hx).2.1, (q5 x hx).2.2⟩
            · simp at hx
              subst hx
              rw [hy1]
              exact ⟨hll, tyM_le (by omega) r3, hy2⟩
          · intro j hj
            rw [Nat.add_mul, Nat.one_mul] at hj
            by_cases hjl : j < N * P.cellsOf e
            · rw [List.getElem?_append_left (by omega)]
              exact q6 j hjl
            · rw [List.getElem?_append_right (by omega), q2, ← r5 (j - N * P.cellsOf e) (by omega), Go.MV.add_add]
              congr 2
              omega
      obtain ⟨xs, us, k, q1, q2, q3, q4, q5, q6⟩ := hall len (Nat.le_refl _)
      refine ⟨[.lst none (P.cellsOf e) xs], k + 1, .cons (.lst' q1 hl hm (fun x hx => (q5 x hx).1) q3 (fun j u hu => ⟨a, rfl, stab0 ?_ ?_⟩) (fun t ht => by cases ht)) (.nil _ _), ?_, by simp [MV.one]⟩
      · have hj : j < us.length := (List.getElem?_eq_some_iff.1 hu).1
        rw [q6 j (by omega)]
        exact hu
      · have hj : j < us.length := (List.getElem?_eq_some_iff.1 hu).1
        have hjf : j < (flat xs).length := by rw [← q3.1]; exact hj
        exact one_cell (q3.2 j _ u (List.getElem?_eq_getElem hjf) hu) (q4 _ (List.getElem_mem hjf))
      · unfold TyM
        rw [hu]
        exact ⟨xs, rfl, q5⟩
  · rename_i fs hu
    simp only [Bool.and_eq_true, List.all_eq_true] at hot
    obtain ⟨xs, n', rfl, rfl, hlen, hxl, hf⟩ := DataW.trod_struct hu h
    have hfld : ∀ f ∈ fs.toList, ∃ (k : Nat) (l : List MV), Rds (g0 W) W l ((cs.drop f.offset).take (P.cellsOf f.type)) ∧ TyM P k f.type l ∧ ∀ y ∈ l, y.one = true := by
      intro f hfm
      obtain ⟨i, hi⟩ := List.getElem?_of_mem hfm
      have hi' : fs[i]? = some f := by simpa using hi
      have hilt : i < xs.length := by rw [hxl]; exact (Array.getElem?_eq_some_iff.1 hi').1
      have htr := hf i f hi'
      rw [List.getElem?_eq_getElem hilt] at htr
      have hsz : SizeOf.sizeOf xs[i].1 < n := by
        have hmem : xs[i].1 ∈ xs.map (·.1) := List.mem_map.2 ⟨xs[i], List.getElem_mem hilt, rfl⟩
        have := List.sizeOf_lt_of_mem hmem
        simp only [DataW.agg.sizeOf_spec] at hx
        omega
      obtain ⟨l, k, h1, h2, h3⟩ := ih _ hsz xs[i] n' f.type _ (Nat.le_refl _) (natMem_iff.1 (hot.1 f hfm)) htr
      exact ⟨k, l, h1, h2, h3⟩
    obtain ⟨K, hK⟩ := common_bound (p := fun k (f : Field) => ∃ l : List MV, Rds (g0 W) W l ((cs.drop f.offset).take (P.cellsOf f.type)) ∧ TyM P k f.type l ∧ ∀ y ∈ l, y.one = true) (fun a b f hab ⟨l, h1, h2, h3⟩ => ⟨l, h1, tyM_le hab h2, h3⟩) fs.toList hfld
    have hcont := hot.2
    have hlens : ∀ (gs : List Field) (off : Nat), contig P (P.cellsOf t) gs off = true → off ≤ P.cellsOf t ∧ ∀ f ∈ gs, f.offset + P.cellsOf f.type ≤ P.cellsOf t := by
      intro gs
      induction gs with
      | nil => exact fun off hc => ⟨Nat.le_of_eq (Nat.eq_of_beq_eq_true hc), fun f hf => by cases hf⟩
      | cons f gs ihg =>
        intro off hc
        simp only [contig, Bool.and_eq_true] at hc
        have ho := Nat.eq_of_beq_eq_true hc.1
        obtain ⟨h1, h2⟩ := ihg _ hc.2
        refine ⟨by omega, fun f' hf' => ?_⟩
        rcases List.mem_cons.1 hf' with rfl | hf'
        · omega
        · exact h2 f' hf'
    obtain ⟨l, h1, h2, h3⟩ := rds_of_fields (P := P) (W := W) (T := TyM P K) hlen fs.toList 0 hcont (fun f hfm => by
      obtain ⟨l, h1, h2, h3⟩ := hK f hfm
      refine ⟨l, h1, h2, ?_, h3⟩
      have := (hlens _ _ hcont).2 f hfm
      rw [← h1.1, List.length_take, List.length_drop, hlen]
      omega)
    refine ⟨l, K + 1, by simpa using h1, ?_, h3⟩
    unfold TyM
    rw [hu]
    exact h2
  · cases hot
end
section
variable {H : Type} {enc : TypeId × Value → H} {P : Program} {W : World} {base b0 : Nat} {spare : Nat → Bool} {held : Bool} {r : Reach}
theorem arg_one {ts : List TypeId} (hok : okTypes P ts = true) {t : TypeId} (ht : t ∈ ts) {v : Value} {d : DataW H} {p : List MemPlace} (hv : v.cells = #[v]) (h : DataW.Trod enc P W base spare held t v d p) :
    ∃ (l : List MV) (m : Nat), Rds (g0 W) W l [v] ∧ TyM P m t l := by
  obtain ⟨fuel, hf⟩ := h
  rw [hv] at hf
  obtain ⟨l, m, h1, h2, _⟩ := reads_gen hok _ _ _ _ _ (Nat.le_refl _) ht hf
  exact ⟨l, m, h1, h2⟩
end
theorem law_calls {P : Program} {f : FuncId} {xs : List MV} {W : World} {vs : List Value} (h : MCalls P f xs [] fun v σ' => v = .bool true ∧ σ' = []) (hr : Rds (g0 W) W xs vs) : Calls P f vs.toArray W fun e w' => e = .returned (.bool true) ∧ Below W.heap.size W w' := by
  refine (callsIn_wide.1 (h (g0 W) W vs (rel0 W) hr)).mono ?_
  rintro e w' ⟨v, rfl, x, σ', g', ⟨rfl, rfl⟩, hrel, hrd, hle⟩
  rw [hrd.inv_bool]
  have := hrel.below
  rw [hle.B, hle.w0] at this
  exact ⟨rfl, this⟩
end Go.MV
end
section
set_option linter.unusedVariables false
set_option linter.unusedSimpArgs false
namespace Go.MV
open Go Go.RowKit Go.WideShapes Go.ChangeShapes
section
variable {H : Type} {enc : TypeId × Value → H} {P : Program} {W : World} {base b0 : Nat} {spare : Nat → Bool} {held : Bool} {r : Reach} {ts : List TypeId} {t : TypeId} {v : Value} {d : DataW H} {p : List MemPlace}
theorem tyM_intK {k : IntKind} (hu : P.underlying t = some (.int k)) {n : Nat} {l : List MV} (h : TyM P n t l) : ∃ v, l = [.int k v] ∧ (Lit.int k v).wf = true := by
  cases n with
  | zero => exact h.elim
  | succ n => unfold TyM at h; rw [hu] at h; exact h
theorem rd_of_rds {g : Gh} {w : World} {m : MV} {v : Value} (h : Rds g w [m] [v]) : Rd g w m v := h.2 0 _ _ rfl rfl
theorem arg_int {k : IntKind} (hok : okTypes P ts = true) (ht : t ∈ ts) (hu : P.underlying t = some (.int k)) (hv : Value.okWide P W r b0 t v) (h : DataW.Trod enc P W base spare held t v d p) : ∃ n, Rd (g0 W) W (.int k n) v ∧ (Lit.int k n).wf = true := by
  obtain ⟨n, rfl⟩ := okWide_int hu hv
  obtain ⟨l, m, h1, h2⟩ := arg_one hok ht rfl h
  obtain ⟨n', rfl, hw⟩ := tyM_intK hu h2
  exact ⟨n', rd_of_rds h1, hw⟩
theorem wf_u64 {n : Int} (h : (Lit.int .u64 n).wf = true) : ∃ m : Nat, n = (m : Int) ∧ m < 18446744073709551616 := by
  simp [Lit.wf, IntKind.min, IntKind.max, IntKind.signed, IntKind.bits] at h
  exact ⟨n.toNat, by omega, by omega⟩
end
end Go.MV
end
