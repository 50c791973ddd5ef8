/-
  Texts on which the proof of CodeNumbers leans: part 3.
-/
import Derived.Test.YthkikhggmbiffaaCodeNumbersB
section
set_option linter.unusedVariables false
set_option linter.unusedSimpArgs false
set_option maxRecDepth 20000
namespace Go.Proofs.Ythkikhggmbiffaa
open Go Go.MV
theorem gtr_nil {α : Type} {en : α → MV} : intCmp .gtr (((([] : List α).map en).length : Nat) : Int) 0 = some false := rfl
theorem gtr_cons {α : Type} {en : α → MV} {x : α} {l : List α} : intCmp .gtr ((((x :: l).map en).length : Nat) : Int) 0 = some true := by simp [intCmp]
theorem merge_cons {α : Type} {cmp : α → α → Int} {bo : α → α → α} {x y : α} {a b : List α} : mergeF cmp bo (x :: a) (y :: b) = if cmp x y < 0 then x :: mergeF cmp bo a (y :: b) else if cmp x y > 0 then y :: mergeF cmp bo (x :: a) b else bo x y :: mergeF cmp bo a b := by rw [mergeF]
theorem clkIs_spec (c : List Tk) (S : MS) : MCalls Try.prog 68 [.lst none 2 (c.map encT)] S fun v σ' => v = .bool (isClockF c) ∧ σ' = S := by
 refine mcalls_body Try.func68 rfl Try.ntmps68 (Nat.le_of_ble_eq_true rfl) ?_
 refine mwp_len (t := 0) rfl fun hlen => ?_
 rw [List.length_map] at hlen
 refine mwp_seq <| qR rfl <| qA rfl rfl rfl <| qN <| mwp_seq <| mwp_seq <| qR rfl <| qM rfl rfl rfl <| qE rfl rfl Try.underlying95 rfl <| qM rfl rfl rfl <| qN <| mwp_block ?_
 refine mwp_loopKJ (α := Nat) [(0, _), (5, _), (6, _)] (fun i => [(7, .int .i64 (i : Int))]) (fun i => []) (fun i => i ≤ c.length ∧ ∀ j, j < i → okAt c j = true) (fun i => c.length - i) (0) (Nat.le_refl _) (.keep rfl (.keep rfl (.keep rfl (.nil)))) (.keep rfl (.nil)) (⟨by omega, fun j hj => by omega⟩) (rfl) ?_
 rintro i ⟨hi, hall⟩
 refine mwp_seq <| qR rfl <| qC rfl rfl rfl rfl rfl <| qN <| mwp_seq ?_
 refine mwp_cond_split rfl (fun h8 => ?_) (fun h8 => ?_)
 ·
  have hlt : i < c.length := by simpa using h8
  obtain ⟨t, hs⟩ : ∃ q_, c[i]? = some q_ := ⟨_, List.getElem?_eq_getElem hlt⟩
  refine mwp_skip <| mwp_seq <| mwp_block <| mwp_seq <| qR rfl <| qM rfl rfl rfl <| qO rfl <| op_indexAddr rfl Try.underlying95 sz123 (by decide) rfl rfl rfl (get_map hs) ?_
  refine qO rfl <| op_load_sptr rfl rfl ta123 rfl <| qO rfl <| op_alloc' rfl zm123 rfl rfl <| qA rfl rfl rfl <| qO rfl <| op_store' rfl rfl rfl rfl sz123 rfl rfl (Nat.le_of_ble_eq_true rfl) rfl <| qN <| mwp_seq ?_
  refine mwp_draw [] [_] mo (by decide) rfl rfl rfl rfl ?_
  refine dO rfl rfl rfl (op_fieldAddr_ref rfl rfl fo123_0 ⟨rfl, rfl⟩) <| dO rfl rfl rfl (op_load' rfl rfl rfl ta3 rfl ⟨rfl, rfl⟩) <| dO rfl rfl rfl (op_cmp rfl rfl rfl rfl ⟨rfl, rfl⟩) <| dO rfl rfl rfl (op_move rfl rfl ⟨rfl, rfl⟩) ?_
  refine dOps_case (fun h15 => ?_) (fun h15 => ?_)
  ·
   refine dS rfl rfl <| dS rfl rfl <| dS rfl rfl <| dO rfl rfl rfl (op_pick rfl rfl rfl ⟨rfl, rfl⟩) <| dO rfl rfl rfl (op_move rfl rfl ⟨rfl, rfl⟩) <| dS rfl rfl <| dS rfl rfl <| dS rfl rfl <| dO rfl rfl rfl (op_pick rfl rfl rfl ⟨rfl, rfl⟩) <| dO rfl rfl rfl (op_move rfl rfl ⟨rfl, rfl⟩) <| dS rfl rfl <| dS rfl rfl <| dS rfl rfl <| dS rfl rfl <| dS rfl rfl <| dS rfl rfl <| dS rfl rfl <| dS rfl rfl <| dS rfl rfl <| dS rfl rfl <| dS rfl rfl <| dS rfl rfl <| dS rfl rfl <| dO rfl rfl rfl (op_pick rfl rfl rfl ⟨rfl, rfl⟩) <| dOps_nil <| mwp_cond_t rfl (rfl) <| mwp_seq <| qR rfl <| qA rfl rfl rfl ?_
   refine qN <| mwp_ret ?_
   exact ret_tmp (.inr rfl) Try.results68 rfl (.of_eq (by rw [isClock_false hlt (by simp_all [okAt] <;> omega)])) (.bool _) ⟨rfl, rfl⟩
  ·
   refine dO rfl rfl rfl (op_fieldAddr_ref rfl rfl fo123_0 ⟨rfl, rfl⟩) <| dO rfl rfl rfl (op_load' rfl rfl rfl ta3 rfl ⟨rfl, rfl⟩) <| dO rfl rfl rfl (op_cmp rfl rfl rfl rfl ⟨rfl, rfl⟩) <| dO rfl rfl rfl (op_pick rfl rfl rfl ⟨rfl, rfl⟩) <| dO rfl rfl rfl (op_move rfl rfl ⟨rfl, rfl⟩) ?_
   refine dOps_case (fun h20 => ?_) (fun h20 => ?_)
   ·
    refine dS rfl rfl <| dS rfl rfl <| dS rfl rfl <| dO rfl rfl rfl (op_pick rfl rfl rfl ⟨rfl, rfl⟩) <| dO rfl rfl rfl (op_move rfl rfl ⟨rfl, rfl⟩) <| dS rfl rfl <| dS rfl rfl <| dS rfl rfl <| dS rfl rfl <| dS rfl rfl <| dS rfl rfl <| dS rfl rfl <| dS rfl rfl <| dS rfl rfl <| dS rfl rfl <| dS rfl rfl <| dS rfl rfl <| dS rfl rfl <| dO rfl rfl rfl (op_pick rfl rfl rfl ⟨rfl, rfl⟩) <| dOps_nil <| mwp_cond_t rfl (rfl) <| mwp_seq <| qR rfl <| qA rfl rfl rfl <| qN <| mwp_ret ?_
    exact ret_tmp (.inr rfl) Try.results68 rfl (.of_eq (by rw [isClock_false hlt (by simp_all [okAt] <;> omega)])) (.bool _) ⟨rfl, rfl⟩
   ·
    refine dO rfl rfl rfl (op_fieldAddr_ref rfl rfl fo123_1 ⟨rfl, rfl⟩) <| dO rfl rfl rfl (op_load' rfl rfl rfl ta22 rfl ⟨rfl, rfl⟩) <| dO rfl rfl rfl (op_cmp rfl rfl rfl rfl ⟨rfl, rfl⟩) <| dO rfl rfl rfl (op_pick rfl rfl rfl ⟨rfl, rfl⟩) <| dO rfl rfl rfl (op_move rfl rfl ⟨rfl, rfl⟩) ?_
    refine dOps_case (fun h25 => ?_) (fun h25 => ?_)
    ·
     refine dS rfl rfl <| dS rfl rfl <| dS rfl rfl <| dS rfl rfl <| dS rfl rfl <| dS rfl rfl <| dS rfl rfl <| dS rfl rfl <| dS rfl rfl <| dS rfl rfl <| dS rfl rfl <| dS rfl rfl <| dS rfl rfl <| dO rfl rfl rfl (op_pick rfl rfl rfl ⟨rfl, rfl⟩) <| dOps_nil <| mwp_cond_t rfl (rfl) <| mwp_seq <| qR rfl <| qA rfl rfl rfl <| qN <| mwp_ret ?_
     exact ret_tmp (.inr rfl) Try.results68 rfl (.of_eq (by rw [isClock_false hlt (by simp_all [okAt] <;> omega)])) (.bool _) ⟨rfl, rfl⟩
    ·
     refine dO rfl rfl rfl (op_move rfl rfl ⟨rfl, rfl⟩) <| dO rfl rfl rfl (op_cmp rfl rfl rfl rfl ⟨rfl, rfl⟩) <| dO rfl rfl rfl (op_move rfl rfl ⟨rfl, rfl⟩) ?_
     refine dOps_case (fun h28 => ?_) (fun h28 => ?_)
     ·
      have hi0 : 0 < i := by simpa using h28
      obtain ⟨p, hp⟩ : ∃ a, c[i - 1]? = some a := ⟨_, List.getElem?_eq_getElem (by omega)⟩
      refine dO rfl rfl rfl (op_fieldAddr_ref rfl rfl fo123_0 ⟨rfl, rfl⟩) <| dO rfl rfl rfl (op_load' rfl rfl rfl ta3 rfl ⟨rfl, rfl⟩) <| dO rfl rfl rfl (op_move rfl rfl ⟨rfl, rfl⟩) <| dO rfl rfl rfl (op_move rfl rfl ⟨rfl, rfl⟩) <| dO rfl rfl rfl (op_arith rfl rfl rfl (wsub (a := i) (b := 1) (c := i - 1) (by omega) (by simp only [maxLen] at hlen; omega)) ⟨rfl, rfl⟩) ?_
      refine dO rfl rfl rfl (op_indexAddr rfl Try.underlying95 sz123 (by decide) rfl rfl rfl (get_map hp) ⟨rfl, rfl⟩) ?_
      refine dO rfl rfl rfl (op_fieldAddr_sptr rfl rfl fo123_0 ⟨rfl, rfl⟩) <| dO rfl rfl rfl (op_load_sptr rfl rfl ta3 rfl ⟨rfl, rfl⟩) <| dO rfl rfl rfl (op_cmp rfl rfl rfl rfl ⟨rfl, rfl⟩) <| dO rfl rfl rfl (op_pick rfl rfl rfl ⟨rfl, rfl⟩) <| dO rfl rfl rfl (op_pick rfl rfl rfl ⟨rfl, rfl⟩) <| dOps_nil ?_
      refine mwp_cond_split rfl (fun h39 => ?_) (fun h39 => ?_)
      ·
       refine mwp_seq <| qR rfl <| qA rfl rfl rfl <| qN <| mwp_ret ?_
       exact ret_tmp (.inr rfl) Try.results68 rfl (.of_eq (by rw [isClock_false hlt (by simp_all [okAt] <;> omega)])) (.bool _) ⟨rfl, rfl⟩
      ·
       refine mwp_skip <| qR rfl <| qO rfl <| op_arith rfl rfl rfl rfl <| qM rfl rfl rfl <| qN ?_
       refine ⟨i + 1, _, by omega, ⟨by omega, fun j hj => ?_⟩, rfl, .nil, (.old rfl rfl (.old rfl rfl (.old rfl rfl (.nil)))), (.new' rfl (int_succ hlt hlen) (.int _ _) (.nil))⟩
       by_cases e : j = i
       ·subst e; simp_all [okAt]
       ·exact hall j (by omega)
     ·
      refine dS rfl rfl <| dS rfl rfl <| dS rfl rfl <| dS rfl rfl <| dS rfl rfl <| dS rfl rfl <| dS rfl rfl <| dS rfl rfl <| dS rfl rfl <| dO rfl rfl rfl (op_pick rfl rfl rfl ⟨rfl, rfl⟩) <| dO rfl rfl rfl (op_pick rfl rfl rfl ⟨rfl, rfl⟩) <| dOps_nil <| mwp_cond_f rfl (rfl) <| mwp_skip <| qR rfl <| qO rfl <| op_arith rfl rfl rfl rfl <| qM rfl rfl rfl <| qN ?_
      refine ⟨i + 1, _, by omega, ⟨by omega, fun j hj => ?_⟩, rfl, .nil, (.old rfl rfl (.old rfl rfl (.old rfl rfl (.nil)))), (.new' rfl (int_succ hlt hlen) (.int _ _) (.nil))⟩
      by_cases e : j = i
      ·subst e; simp_all [okAt]
      ·exact hall j (by omega)
 ·
  have hge : i = c.length := by simp at h8; omega
  refine mwp_exit <| mwp_seq <| qR rfl <| qM rfl rfl rfl <| qE rfl rfl Try.underlying95 rfl <| qC rfl rfl rfl rfl rfl <| qA rfl rfl rfl <| qN <| mwp_ret ?_
  exact ret_tmp (.inr rfl) Try.results68 rfl (.of_eq (by rw [isClock_end (fun j hj => hall j (by omega)), List.length_map])) (.bool _) ⟨rfl, rfl⟩
theorem tEqual_spec (a b : List Tk) (S : MS) : MCalls Try.prog 103 [.lst none 2 (a.map encT), .lst none 2 (b.map encT)] S fun v σ' => v = .bool (decide (a = b)) ∧ σ' = S := by
 refine mcalls_body Try.func103 rfl Try.ntmps103 (Nat.le_of_ble_eq_true rfl) ?_
 refine mwp_len (t := 0) rfl fun hlen => ?_
 rw [List.length_map] at hlen
 refine mwp_seq <| qR rfl <| qA rfl rfl rfl <| qN <| mwp_seq <| mwp_seq <| qR rfl <| qM rfl rfl rfl <| qE rfl rfl Try.underlying95 rfl <| qM rfl rfl rfl <| qE rfl rfl Try.underlying95 rfl <| qC rfl rfl rfl rfl rfl <| qN ?_
 refine mwp_cond_split rfl (fun h10 => ?_) (fun h10 => ?_)
 ·
  refine mwp_seq <| qR rfl <| qA rfl rfl rfl <| qN <| mwp_ret ?_
  exact ret_tmp (.inr rfl) Try.results103 rfl (.of_eq (by congr 1; symm; rw [decide_eq_false_iff_not]; intro e; subst e; simp at h10)) (.bool _) ⟨rfl, rfl⟩
 ·
  have hab : a.length = b.length := by simp at h10; omega
  refine mwp_skip <| mwp_seq <| mwp_seq <| qR rfl <| qM rfl rfl rfl <| qE rfl rfl Try.underlying95 rfl <| qM rfl rfl rfl <| qN <| mwp_block ?_
  refine mwp_loopK (α := Nat) [(0, _), (1, _), (12, _)] (fun i => [(13, .int .i64 (i : Int))]) (fun i => []) (fun i => i ≤ a.length ∧ a.take i = b.take i) (fun i => a.length - i) (0) (.keep rfl (.keep rfl (.keep rfl (.nil)))) (.keep rfl (.nil)) (⟨by omega, rfl⟩) (rfl) ?_
  rintro i ⟨hi, heq⟩
  refine mwp_seq <| qR rfl <| qC rfl rfl rfl rfl rfl <| qN <| mwp_seq ?_
  refine mwp_cond_split rfl (fun h14 => ?_) (fun h14 => ?_)
  ·
   have hlt : i < a.length := by simpa using h14
   obtain ⟨x, hs⟩ : ∃ q_, a[i]? = some q_ := ⟨_, List.getElem?_eq_getElem hlt⟩
   obtain ⟨y, hs2⟩ : ∃ s, b[i]? = some s := ⟨_, List.getElem?_eq_getElem (by omega)⟩
   refine mwp_skip <| mwp_seq <| mwp_block <| mwp_seq <| qR rfl <| qM rfl rfl rfl <| qA rfl rfl rfl <| qN <| mwp_seq ?_
   refine mwp_draw [] [_] mo (by decide) rfl rfl rfl rfl ?_
   refine dO rfl rfl rfl (op_move rfl rfl ⟨rfl, rfl⟩) <| dO rfl rfl rfl (op_move rfl rfl ⟨rfl, rfl⟩) <| dO rfl rfl rfl (op_indexAddr rfl Try.underlying95 sz123 (by decide) rfl rfl rfl (get_map hs) ⟨rfl, rfl⟩) ?_
   refine dO rfl rfl rfl (op_load_sptr rfl rfl ta123 rfl ⟨rfl, rfl⟩) <| dO rfl rfl rfl (op_move rfl rfl ⟨rfl, rfl⟩) <| dO rfl rfl rfl (op_move rfl rfl ⟨rfl, rfl⟩) <| dO rfl rfl rfl (op_indexAddr rfl Try.underlying95 sz123 (by decide) rfl rfl rfl (get_map hs2) ⟨rfl, rfl⟩) ?_
   refine dO rfl rfl rfl (op_load_sptr rfl rfl ta123 rfl ⟨rfl, rfl⟩) <| dOps_op rfl rfl (.cons (op_eqstruct rfl (by kernel_rfl) rfl rfl rfl (.inr ⟨rfl, rfl⟩) ⟨rfl, rfl⟩) .nil) ?_
   refine dOps_nil ?_
   refine mwp_cond_split rfl (fun h24 => ?_) (fun h24 => ?_)
   ·
    refine mwp_seq <| qR rfl <| qA rfl rfl rfl <| qN <| mwp_ret ?_
    exact ret_tmp (.inr rfl) Try.results103 rfl (.of_eq (by congr 1; symm; rw [decide_eq_false_iff_not]; intro e; subst e; rw [hs2] at hs; injection hs with hs; subst hs; simp at h24)) (.bool _) ⟨rfl, rfl⟩
   ·
    refine mwp_skip <| qR rfl <| qO rfl <| op_arith rfl rfl rfl rfl <| qM rfl rfl rfl <| qN ?_
    refine ⟨i + 1, by omega, ⟨by omega, ?_⟩, rfl, (.keep rfl (.keep rfl (.keep rfl (.nil)))), (.eq rfl (int_succ hlt hlen) (.nil))⟩
    rw [List.take_add_one, List.take_add_one, hs, hs2, heq]
    obtain ⟨x1, x2⟩ := x; obtain ⟨y1, y2⟩ := y
    simp at h24
    rw [h24.1, h24.2]
  ·
   have hge : i = a.length := by simp at h14; omega
   refine mwp_exit <| mwp_seq <| qR rfl <| qA rfl rfl rfl <| qN <| mwp_ret ?_
   exact ret_tmp (.inr rfl) Try.results103 rfl (.of_eq (by congr 1; symm; rw [decide_eq_true_iff]; rw [hge, List.take_length, hab, List.take_length] at heq; exact heq)) (.bool _) ⟨rfl, rfl⟩
theorem clkSame_spec (a b : List Tk) (S : MS) : MCalls Try.prog 90 [.lst none 2 (a.map encT), .lst none 2 (b.map encT)] S fun v σ' => v = .bool (decide (a = b)) ∧ σ' = S := by
 refine mcalls_body Try.func90 rfl Try.ntmps90 (Nat.le_of_ble_eq_true rfl) ?_
 refine mwp_seq <| qR rfl <| qA rfl rfl rfl <| qN <| mwp_seq <| qR rfl <| qM rfl rfl rfl <| qM rfl rfl rfl ?_
 refine wOps_op rfl (op_call rfl rfl rfl co103 ((tEqual_spec a b _).mono ?_))
 rintro _ _ ⟨rfl, rfl⟩
 refine qA rfl rfl rfl <| qN <| mwp_ret ?_
 exact ret_tmp (.inr rfl) Try.results90 rfl (.of_eq (rfl)) (.bool _) ⟨rfl, rfl⟩
theorem isNaN_spec (m : Int) (S : MS) : MCalls Try.prog 105 [.int .i64 m] S fun v σ' => v = .bool false ∧ σ' = S := by
 refine mcalls_body Try.func105 rfl Try.ntmps105 (Nat.le_of_ble_eq_true rfl) ?_
 refine mwp_seq <| qR rfl <| qA rfl rfl rfl <| qN <| mwp_seq <| qR rfl <| qM rfl rfl rfl <| qM rfl rfl rfl <| qC rfl rfl rfl rfl rfl <| qA rfl rfl rfl <| qN <| mwp_ret ?_
 exact ret_tmp (.inr rfl) Try.results105 rfl (.of_eq (by simp)) (.bool _) ⟨rfl, rfl⟩
theorem compare_spec (m n : Int) (S : MS) : MCalls Try.prog 97 [.int .i64 m, .int .i64 n] S fun v σ' => v = .int .i64 (cmpI m n) ∧ σ' = S := by
 refine mcalls_body Try.func97 rfl Try.ntmps97 (Nat.le_of_ble_eq_true rfl) ?_
 refine mwp_seq <| qR rfl <| qA rfl rfl rfl <| qN <| mwp_seq <| qR rfl <| qM rfl rfl rfl ?_
 refine wOps_op rfl (op_call rfl rfl rfl co105 ((isNaN_spec m _).mono ?_))
 rintro _ _ ⟨rfl, rfl⟩
 refine qA rfl rfl rfl <| qN <| mwp_seq <| qR rfl <| qM rfl rfl rfl ?_
 refine wOps_op rfl (op_call rfl rfl rfl co105 ((isNaN_spec n _).mono ?_))
 rintro _ _ ⟨rfl, rfl⟩
 refine qA rfl rfl rfl <| qN <| mwp_seq <| mwp_seq <| qR rfl <| qM rfl rfl rfl <| qN <| mwp_cond_f rfl (rfl) <| mwp_skip <| mwp_seq <| mwp_seq <| qR rfl <| qM rfl rfl rfl <| qN <| mwp_cond_f rfl (rfl) <| mwp_skip <| mwp_seq <| mwp_seq <| qR rfl <| qM rfl rfl rfl <| qM rfl rfl rfl <| qC rfl rfl rfl rfl rfl <| qN ?_
 refine mwp_cond_split rfl (fun h16 => ?_) (fun h16 => ?_)
 ·
  refine mwp_seq <| qR rfl <| qA rfl rfl rfl <| qN <| mwp_ret ?_
  exact ret_tmp (.inr rfl) Try.results97 rfl (.of_eq (by simp only [decide_eq_true_eq] at h16; rw [cmpI, if_pos h16])) (.int _ _) ⟨rfl, rfl⟩
 ·
  refine mwp_skip <| mwp_seq <| mwp_seq <| qR rfl <| qM rfl rfl rfl <| qM rfl rfl rfl <| qC rfl rfl rfl rfl rfl <| qN ?_
  refine mwp_cond_split rfl (fun h19 => ?_) (fun h19 => ?_)
  ·
   refine mwp_seq <| qR rfl <| qA rfl rfl rfl <| qN <| mwp_ret ?_
   exact ret_tmp (.inr rfl) Try.results97 rfl (.of_eq (by simp only [decide_eq_true_eq, decide_eq_false_iff_not] at h16 h19; rw [cmpI, if_neg h16, if_pos h19])) (.int _ _) ⟨rfl, rfl⟩
  ·
   refine mwp_skip <| mwp_seq <| qR rfl <| qA rfl rfl rfl <| qN <| mwp_ret ?_
   exact ret_tmp (.inr rfl) Try.results97 rfl (.of_eq (by simp only [decide_eq_true_eq, decide_eq_false_iff_not] at h16 h19; rw [cmpI, if_neg h16, if_neg h19])) (.int _ _) ⟨rfl, rfl⟩
theorem byWho_spec (x y : Tk) (S : MS) : MCalls Try.prog 108 [encT x, encT y] S fun v σ' => v = .int .i64 (cmpI x.1 y.1) ∧ σ' = S := by
 refine mcalls_body Try.func108 rfl Try.ntmps108 (Nat.le_of_ble_eq_true rfl) ?_
 refine mwp_seq <| qR rfl <| qB rfl rfl rfl rfl rfl <| qB rfl rfl rfl rfl rfl <| qA rfl rfl rfl <| qN <| mwp_seq <| qR rfl <| qF rfl rfl rfl fo123_0 <| qL rfl rfl rfl rfl ta3 rfl <| qF rfl rfl rfl fo123_0 <| qL rfl rfl rfl rfl ta3 rfl ?_
 refine wOps_op rfl (op_call rfl rfl rfl co97 ((compare_spec x.1 y.1 _).mono ?_))
 rintro _ _ ⟨rfl, rfl⟩
 refine qA rfl rfl rfl <| qN <| mwp_ret ?_
 exact ret_tmp (.inr rfl) Try.results108 rfl (.of_eq (rfl)) (.int _ _) ⟨rfl, rfl⟩
theorem join1_spec (x y : Tk) (S : MS) : MCalls Try.prog 109 [encT x, encT y] S fun v σ' => v = encT (bothT x y) ∧ σ' = S := by
 refine mcalls_body Try.func109 rfl Try.ntmps109 (Nat.le_of_ble_eq_true rfl) ?_
 refine mwp_seq <| qR rfl <| qB rfl rfl rfl rfl rfl <| qB rfl rfl rfl rfl rfl <| qO rfl <| op_alloc' rfl zm123 rfl rfl <| qN <| mwp_seq <| qR rfl <| qF rfl rfl rfl fo123_0 <| qL rfl rfl rfl rfl ta3 rfl <| qF rfl rfl rfl fo123_1 <| qL rfl rfl rfl rfl ta22 rfl <| qF rfl rfl rfl fo123_1 <| qL rfl rfl rfl rfl ta22 rfl <| qO rfl <| op_max2 rfl rfl rfl <| qO rfl <| op_build rfl Try.underlying123 zm123 (.cons fo123_0 sz3 rfl rfl (Nat.le_of_ble_eq_true rfl) (.cons fo123_1 sz22 rfl rfl (Nat.le_of_ble_eq_true rfl) .nil)) (by kernel_rfl) ?_
 refine qO rfl <| op_store' rfl rfl rfl rfl sz123 rfl rfl (Nat.le_of_ble_eq_true rfl) rfl <| qN <| mwp_ret ?_
 exact ret_cell (.inr rfl) Try.results109 rfl rfl ta123 rfl (.refl _) (cl_encT _ (bothT x y)) ⟨rfl, rfl⟩
theorem merge_spec (a b : List Tk) (cmp : Tk → Tk → Int) (bo : Tk → Tk → Tk) (kc kb : FuncId) (hab : a.length + b.length ≤ 1000000) (hco : CallOk Try.prog kc) (hcb : CallOk Try.prog kb) (hp : ∀ (x y : Tk) (X : MS), MCalls Try.prog kc [encT x, encT y] X fun v σ' => v = .int .i64 (cmp x y) ∧ σ' = X) (hq : ∀ (x y : Tk) (X : MS), MCalls Try.prog kb [encT x, encT y] X fun v σ' => v = encT (bo x y) ∧ σ' = X) (S : MS) : MCalls Try.prog 107 [.lst none 2 (a.map encT), .lst none 2 (b.map encT), .fn (.func kc) [] [], .fn (.func kb) [] []] S fun v σ' => v = .lst none 2 ((mergeF cmp bo a b).map encT) ∧ σ' = S := by
 refine mcalls_body Try.func107 rfl Try.ntmps107 (Nat.le_of_ble_eq_true rfl) ?_
 refine mwp_seq <| qR rfl <| qA rfl rfl rfl <| qN <| mwp_seq <| qR rfl <| qA rfl rfl rfl <| qN <| mwp_seq <| mwp_block <| mwp_row0 9 123 2 rfl (Nat.le_refl _) rfl rfl ?_
 refine mwp_loopK (α := List Tk × List Tk × List Tk) [(2, _), (3, _)] (fun x => [(0, .lst none 2 (x.1.map encT)), (1, .lst none 2 (x.2.1.map encT)), (9, .lst (some (S.length + 0)) 2 (x.2.2.map encT))]) (fun x => [.row 123 2 x.2.2.length]) (fun x => x.2.2.length + x.1.length + x.2.1.length ≤ a.length + b.length ∧ x.2.2 ++ mergeF cmp bo x.1 x.2.1 = mergeF cmp bo a b) (fun x => x.1.length + x.2.1.length) (⟨a, b, []⟩) (.keep rfl (.keep rfl (.nil))) (.keep rfl (.keep rfl (.keep rfl (.nil)))) (⟨by simp, by simp⟩) (rfl) ?_
 rintro ⟨a', b', out⟩ ⟨hl, he⟩
 dsimp only at hl he ⊢
 refine mwp_seq <| mwp_seq ?_
 rcases a' with _ | ⟨x, a'⟩
 ·
  refine qR rfl <| qM rfl rfl rfl <| qE rfl rfl Try.underlying95 rfl <| qC rfl rfl rfl rfl (gtr_nil) <| qM rfl rfl rfl <| qS rfl <| qS rfl <| qS rfl <| qP rfl rfl rfl rfl <| qN <| mwp_cond_f rfl (rfl) <| mwp_exit <| mwp_seq <| qR rfl <| qM rfl rfl rfl <| qM rfl rfl rfl <| qO rfl <| op_append' rfl Try.underlying95 el123 rfl rfl rfl (by simp) (by simp only [List.length_cons, List.length_nil, List.length_map, List.length_append] at hl ⊢; omega) (by simp only [List.length_cons, List.length_nil, List.length_map, List.length_append] at hl ⊢; omega) rfl ?_
  refine qM rfl rfl rfl <| qO rfl <| op_append' rfl Try.underlying95 el123 rfl rfl rfl (by simp) (by simp only [List.length_cons, List.length_nil, List.length_map, List.length_append] at hl ⊢; omega) (by simp only [List.length_cons, List.length_nil, List.length_map, List.length_append] at hl ⊢; omega) rfl ?_
  refine qA rfl rfl rfl <| qN <| mwp_ret ?_
  exact ret_tmp (.inr rfl) Try.results107 rfl (Sub.trans (.view _ _ _) (.of_eq (by rw [← he]; simp [nil_merge]))) (cl_clock _ _) ⟨rfl, rfl⟩
 ·
  rcases b' with _ | ⟨y, b'⟩
  ·
   refine qR rfl <| qM rfl rfl rfl <| qE rfl rfl Try.underlying95 rfl <| qC rfl rfl rfl rfl (gtr_cons) <| qM rfl rfl rfl <| qM rfl rfl rfl <| qE rfl rfl Try.underlying95 rfl <| qC rfl rfl rfl rfl (gtr_nil) <| qP rfl rfl rfl rfl <| qN <| mwp_cond_f rfl (rfl) <| mwp_exit <| mwp_seq <| qR rfl <| qM rfl rfl rfl <| qM rfl rfl rfl <| qO rfl <| op_append' rfl Try.underlying95 el123 rfl rfl rfl (by simp) (by simp only [List.length_cons, List.length_nil, List.length_map, List.length_append] at hl ⊢; omega) (by simp only [List.length_cons, List.length_nil, List.length_map, List.length_append] at hl ⊢; omega) rfl ?_
   refine qM rfl rfl rfl <| qO rfl <| op_append' rfl Try.underlying95 el123 rfl rfl rfl (by simp) (by simp only [List.length_cons, List.length_nil, List.length_map, List.length_append] at hl ⊢; omega) (by simp only [List.length_cons, List.length_nil, List.length_map, List.length_append] at hl ⊢; omega) rfl ?_
   refine qA rfl rfl rfl <| qN <| mwp_ret ?_
   exact ret_tmp (.inr rfl) Try.results107 rfl (Sub.trans (.view _ _ _) (.of_eq (by rw [← he]; simp [merge_nil]))) (cl_clock _ _) ⟨rfl, rfl⟩
  ·
   simp only [List.length_cons] at hl
   refine qR rfl <| qM rfl rfl rfl <| qE rfl rfl Try.underlying95 rfl <| qC rfl rfl rfl rfl (gtr_cons) <| qM rfl rfl rfl <| qM rfl rfl rfl <| qE rfl rfl Try.underlying95 rfl <| qC rfl rfl rfl rfl (gtr_cons) <| qP rfl rfl rfl rfl <| qN <| mwp_cond_t rfl (rfl) <| mwp_skip <| mwp_block <| mwp_seq ?_
   refine mwp_draw [] [_] mo (by decide) rfl rfl rfl rfl ?_
   refine dO rfl rfl rfl (op_move rfl rfl ⟨rfl, rfl⟩) <| dO rfl rfl rfl (op_move rfl rfl ⟨rfl, rfl⟩) <| dO rfl rfl rfl (op_indexAddr rfl Try.underlying95 sz123 (by decide) rfl rfl rfl rfl ⟨rfl, rfl⟩) ?_
   refine dO rfl rfl rfl (op_load_sptr rfl rfl ta123 rfl ⟨rfl, rfl⟩) <| dO rfl rfl rfl (op_move rfl rfl ⟨rfl, rfl⟩) <| dO rfl rfl rfl (op_indexAddr rfl Try.underlying95 sz123 (by decide) rfl rfl rfl rfl ⟨rfl, rfl⟩) ?_
   refine dO rfl rfl rfl (op_load_sptr rfl rfl ta123 rfl ⟨rfl, rfl⟩) <| dOps_op rfl rfl (.cons (op_call rfl rfl rfl hco (hp x y _)) .nil) <| dO rfl rfl rfl (op_assign rfl rfl ⟨rfl, rfl⟩) <| dOps_nil <| mwp_block <| mwp_seq <| qR rfl <| qM rfl rfl rfl <| qC rfl rfl rfl rfl rfl <| qA rfl rfl rfl <| qN ?_
   refine mwp_cond_split rfl (fun h42 => ?_) (fun h42 => ?_)
   ·
    refine mwp_draw [5] [_, S ++ [.row 123 2 (out.length + 1)]] mo (by decide) rfl rfl rfl rfl ?_
    refine dO rfl rfl rfl (op_move rfl rfl ⟨rfl, rfl⟩) <| dOps_op rfl rfl (.cons (op_move rfl rfl ⟨rfl, rfl⟩) (.cons (op_move rfl rfl ⟨rfl, rfl⟩) (.nil))) <| dOps_op rfl rfl (.cons (op_indexAddr rfl Try.underlying95 sz123 (by decide) rfl rfl rfl rfl ⟨rfl, rfl⟩) (.cons (op_indexAddr rfl Try.underlying95 sz123 (by decide) rfl rfl rfl rfl ⟨rfl, rfl⟩) (.nil))) ?_
    refine dOps_op rfl rfl (.cons (op_load_sptr rfl rfl ta123 rfl ⟨rfl, rfl⟩) (.cons (op_load_sptr rfl rfl ta123 rfl ⟨rfl, rfl⟩) (.nil))) <| dO rfl rfl rfl (op_buildSlice rfl Try.underlying95 el123 rfl rfl (by decide) (by decide) rfl rfl ⟨rfl, rfl⟩) ?_
    refine dOps_eff rfl rfl rfl rfl (op_append' rfl Try.underlying95 el123 rfl rfl rfl (by simp) (by simp only [List.length_cons, List.length_nil, List.length_map, List.length_append] at hl ⊢; omega) (by simp only [List.length_cons, List.length_nil, List.length_map, List.length_append] at hl ⊢; omega) rfl ⟨rfl, rfl⟩) ?_
    refine dOps_op rfl rfl (.cons (op_move rfl rfl ⟨rfl, rfl⟩) (.cons (op_move rfl rfl ⟨rfl, rfl⟩) (.nil))) <| dOps_op rfl rfl (.cons (op_slice rfl Try.underlying95 sz123 rfl (.some rfl rfl) .none (by simp) (Nat.le_refl _) ⟨rfl, rfl⟩) (.cons (op_slice rfl Try.underlying95 sz123 rfl (.some rfl rfl) .none (by simp) (Nat.le_refl _) ⟨rfl, rfl⟩) (.nil))) ?_
    refine dO rfl rfl rfl (op_assign rfl rfl ⟨rfl, rfl⟩) <| dO rfl rfl rfl (op_assign rfl rfl ⟨rfl, rfl⟩) <| dOps_nil ?_
    simp only [decide_eq_true_eq] at h42
    refine ⟨⟨a', y :: b', out ++ [x]⟩, by simp only [List.length_cons, List.length_append, List.length_nil]; omega, ⟨by simp only [List.length_cons, List.length_append, List.length_nil]; omega, by rw [← he, merge_cons, if_pos h42]; simp⟩, by simp, (.keep rfl (.keep rfl (.nil))), (.eq rfl (by simp [List.take_of_length_le]) (.keep rfl (.eq rfl (by rw [List.map_append]; rfl) (.nil))))⟩
   ·
    refine mwp_seq <| qR rfl <| qM rfl rfl rfl <| qC rfl rfl rfl rfl rfl <| qA rfl rfl rfl <| qN ?_
    refine mwp_cond_split rfl (fun h53 => ?_) (fun h53 => ?_)
    ·
     refine mwp_draw [5] [_, S ++ [.row 123 2 (out.length + 1)]] mo (by decide) rfl rfl rfl rfl ?_
     refine dO rfl rfl rfl (op_move rfl rfl ⟨rfl, rfl⟩) <| dOps_op rfl rfl (.cons (op_move rfl rfl ⟨rfl, rfl⟩) (.cons (op_move rfl rfl ⟨rfl, rfl⟩) (.nil))) <| dOps_op rfl rfl (.cons (op_indexAddr rfl Try.underlying95 sz123 (by decide) rfl rfl rfl rfl ⟨rfl, rfl⟩) (.cons (op_indexAddr rfl Try.underlying95 sz123 (by decide) rfl rfl rfl rfl ⟨rfl, rfl⟩) (.nil))) ?_
     refine dOps_op rfl rfl (.cons (op_load_sptr rfl rfl ta123 rfl ⟨rfl, rfl⟩) (.cons (op_load_sptr rfl rfl ta123 rfl ⟨rfl, rfl⟩) (.nil))) <| dO rfl rfl rfl (op_buildSlice rfl Try.underlying95 el123 rfl rfl (by decide) (by decide) rfl rfl ⟨rfl, rfl⟩) ?_
     refine dOps_eff rfl rfl rfl rfl (op_append' rfl Try.underlying95 el123 rfl rfl rfl (by simp) (by simp only [List.length_cons, List.length_nil, List.length_map, List.length_append] at hl ⊢; omega) (by simp only [List.length_cons, List.length_nil, List.length_map, List.length_append] at hl ⊢; omega) rfl ⟨rfl, rfl⟩) ?_
     refine dOps_op rfl rfl (.cons (op_move rfl rfl ⟨rfl, rfl⟩) (.cons (op_move rfl rfl ⟨rfl, rfl⟩) (.nil))) <| dOps_op rfl rfl (.cons (op_slice rfl Try.underlying95 sz123 rfl (.some rfl rfl) .none (by simp) (Nat.le_refl _) ⟨rfl, rfl⟩) (.cons (op_slice rfl Try.underlying95 sz123 rfl (.some rfl rfl) .none (by simp) (Nat.le_refl _) ⟨rfl, rfl⟩) (.nil))) ?_
     refine dO rfl rfl rfl (op_assign rfl rfl ⟨rfl, rfl⟩) <| dO rfl rfl rfl (op_assign rfl rfl ⟨rfl, rfl⟩) <| dOps_nil ?_
     simp only [decide_eq_true_eq, decide_eq_false_iff_not] at h42 h53
     refine ⟨⟨x :: a', b', out ++ [y]⟩, by simp only [List.length_cons, List.length_append, List.length_nil]; omega, ⟨by simp only [List.length_cons, List.length_append, List.length_nil]; omega, by rw [← he, merge_cons, if_neg h42, if_pos h53]; simp⟩, by simp, (.keep rfl (.keep rfl (.nil))), (.keep rfl (.eq rfl (by simp [List.take_of_length_le]) (.eq rfl (by rw [List.map_append]; rfl) (.nil))))⟩
    ·
     refine mwp_draw [10] [_, S ++ [.row 123 2 (out.length + 1)]] mo (by decide) rfl rfl rfl rfl ?_
     refine dO rfl rfl rfl (op_move rfl rfl ⟨rfl, rfl⟩) <| dOps_op rfl rfl (.cons (op_move rfl rfl ⟨rfl, rfl⟩) (.cons (op_move rfl rfl ⟨rfl, rfl⟩) (.nil))) <| dOps_op rfl rfl (.cons (op_move rfl rfl ⟨rfl, rfl⟩) (.cons (op_move rfl rfl ⟨rfl, rfl⟩) (.nil))) <| dOps_op rfl rfl (.cons (op_indexAddr rfl Try.underlying95 sz123 (by decide) rfl rfl rfl rfl ⟨rfl, rfl⟩) (.cons (op_indexAddr rfl Try.underlying95 sz123 (by decide) rfl rfl rfl rfl ⟨rfl, rfl⟩) (.nil))) ?_
     refine dOps_op rfl rfl (.cons (op_load_sptr rfl rfl ta123 rfl ⟨rfl, rfl⟩) (.cons (op_load_sptr rfl rfl ta123 rfl ⟨rfl, rfl⟩) (.nil))) <| dOps_op rfl rfl (.cons (op_move rfl rfl ⟨rfl, rfl⟩) (.cons (op_move rfl rfl ⟨rfl, rfl⟩) (.nil))) <| dOps_op rfl rfl (.cons (op_indexAddr rfl Try.underlying95 sz123 (by decide) rfl rfl rfl rfl ⟨rfl, rfl⟩) (.cons (op_indexAddr rfl Try.underlying95 sz123 (by decide) rfl rfl rfl rfl ⟨rfl, rfl⟩) (.nil))) ?_
     refine dOps_op rfl rfl (.cons (op_load_sptr rfl rfl ta123 rfl ⟨rfl, rfl⟩) (.cons (op_load_sptr rfl rfl ta123 rfl ⟨rfl, rfl⟩) (.nil))) <| dOps_op rfl rfl (.cons (op_call rfl rfl rfl hcb (hq x y _)) .nil) <| dO rfl rfl rfl (op_buildSlice rfl Try.underlying95 el123 rfl rfl (by decide) (by decide) rfl rfl ⟨rfl, rfl⟩) ?_
     refine dOps_eff rfl rfl rfl rfl (op_append' rfl Try.underlying95 el123 rfl rfl rfl (by simp) (by simp only [List.length_cons, List.length_nil, List.length_map, List.length_append] at hl ⊢; omega) (by simp only [List.length_cons, List.length_nil, List.length_map, List.length_append] at hl ⊢; omega) rfl ⟨rfl, rfl⟩) ?_
     refine dOps_op rfl rfl (.cons (op_move rfl rfl ⟨rfl, rfl⟩) (.cons (op_move rfl rfl ⟨rfl, rfl⟩) (.nil))) <| dOps_op rfl rfl (.cons (op_slice rfl Try.underlying95 sz123 rfl (.some rfl rfl) .none (by simp) (Nat.le_refl _) ⟨rfl, rfl⟩) (.cons (op_slice rfl Try.underlying95 sz123 rfl (.some rfl rfl) .none (by simp) (Nat.le_refl _) ⟨rfl, rfl⟩) (.nil))) ?_
     refine dOps_op rfl rfl (.cons (op_move rfl rfl ⟨rfl, rfl⟩) (.cons (op_move rfl rfl ⟨rfl, rfl⟩) (.nil))) <| dOps_op rfl rfl (.cons (op_slice rfl Try.underlying95 sz123 rfl (.some rfl rfl) .none (by simp) (Nat.le_refl _) ⟨rfl, rfl⟩) (.cons (op_slice rfl Try.underlying95 sz123 rfl (.some rfl rfl) .none (by simp) (Nat.le_refl _) ⟨rfl, rfl⟩) (.nil))) ?_
     refine dO rfl rfl rfl (op_assign rfl rfl ⟨rfl, rfl⟩) <| dO rfl rfl rfl (op_assign rfl rfl ⟨rfl, rfl⟩) <| dO rfl rfl rfl (op_assign rfl rfl ⟨rfl, rfl⟩) <| dOps_nil ?_
     simp only [decide_eq_false_iff_not] at h42 h53
     refine ⟨⟨a', b', out ++ [bo x y]⟩, by simp only [List.length_cons, List.length_append, List.length_nil]; omega, ⟨by simp only [List.length_cons, List.length_append, List.length_nil]; omega, by rw [← he, merge_cons, if_neg h42, if_neg h53]; simp⟩, by simp, (.keep rfl (.keep rfl (.nil))), (.eq rfl (by simp [List.take_of_length_le]) (.eq rfl (by simp [List.take_of_length_le]) (.eq rfl (by rw [List.map_append]; rfl) (.nil))))⟩
theorem clkJoin_spec (a b : List Tk) (hab : a.length + b.length ≤ 1000000) (S : MS) : MCalls Try.prog 99 [.lst none 2 (a.map encT), .lst none 2 (b.map encT)] S fun v σ' => v = .lst none 2 ((joinF a b).map encT) ∧ σ' = S := by
 refine mcalls_body Try.func99 rfl Try.ntmps99 (Nat.le_of_ble_eq_true rfl) ?_
 refine mwp_seq <| qR rfl <| qA rfl rfl rfl <| qN <| mwp_seq <| qR rfl <| qM rfl rfl rfl <| qM rfl rfl rfl ?_
 refine wOps_op rfl (op_call rfl rfl rfl co107 ((merge_spec a b (fun x y => cmpI x.1 y.1) bothT 108 109 hab co108 co109 byWho_spec join1_spec _).mono ?_))
 rintro _ _ ⟨rfl, rfl⟩
 refine qA rfl rfl rfl <| qN <| mwp_ret ?_
 exact ret_tmp (.inr rfl) Try.results99 rfl (.of_eq (rfl)) (cl_clock _ _) ⟨rfl, rfl⟩
theorem clkCmp_spec (a b : List Tk) (hab : a.length + b.length ≤ 1000000) (S : MS) : MCalls Try.prog 82 [.lst none 2 (a.map encT), .lst none 2 (b.map encT)] S fun v σ' => v = .int .i64 (cmpF a b) ∧ σ' = S := by
 refine mcalls_body Try.func82 rfl Try.ntmps82 (Nat.le_of_ble_eq_true rfl) ?_
 refine mwp_seq <| qR rfl <| qA rfl rfl rfl <| qN <| mwp_seq <| qR rfl <| qM rfl rfl rfl <| qM rfl rfl rfl ?_
 refine wOps_op rfl (op_call rfl rfl rfl co99 ((clkJoin_spec a b hab _).mono ?_))
 rintro _ _ ⟨rfl, rfl⟩
 refine qA rfl rfl rfl <| qN <| mwp_seq <| mwp_block <| mwp_seq <| qR rfl <| qM rfl rfl rfl <| qM rfl rfl rfl ?_
 refine wOps_op rfl (op_call rfl rfl rfl co90 ((clkSame_spec a b _).mono ?_))
 rintro _ _ ⟨rfl, rfl⟩
 refine qA rfl rfl rfl <| qN ?_
 refine mwp_cond_split rfl (fun h9 => ?_) (fun h9 => ?_)
 ·
  refine mwp_seq <| qR rfl <| qA rfl rfl rfl <| qN <| mwp_ret ?_
  exact ret_tmp (.inr rfl) Try.results82 rfl (.of_eq (by unfold cmpF; simp_all)) (.int _ _) ⟨rfl, rfl⟩
 ·
  refine mwp_seq <| qR rfl <| qM rfl rfl rfl <| qM rfl rfl rfl ?_
  refine wOps_op rfl (op_call rfl rfl rfl co90 ((clkSame_spec (joinF a b) b _).mono ?_))
  rintro _ _ ⟨rfl, rfl⟩
  refine qA rfl rfl rfl <| qN ?_
  refine mwp_cond_split rfl (fun h13 => ?_) (fun h13 => ?_)
  ·
   refine mwp_seq <| qR rfl <| qA rfl rfl rfl <| qN <| mwp_ret ?_
   exact ret_tmp (.inr rfl) Try.results82 rfl (.of_eq (by unfold cmpF; simp_all)) (.int _ _) ⟨rfl, rfl⟩
  ·
   refine mwp_seq <| qR rfl <| qM rfl rfl rfl <| qM rfl rfl rfl ?_
   refine wOps_op rfl (op_call rfl rfl rfl co90 ((clkSame_spec (joinF a b) a _).mono ?_))
   rintro _ _ ⟨rfl, rfl⟩
   refine qA rfl rfl rfl <| qN ?_
   refine mwp_cond_split rfl (fun h17 => ?_) (fun h17 => ?_)
   ·
    refine mwp_seq <| qR rfl <| qA rfl rfl rfl <| qN <| mwp_ret ?_
    exact ret_tmp (.inr rfl) Try.results82 rfl (.of_eq (by unfold cmpF; simp_all)) (.int _ _) ⟨rfl, rfl⟩
   ·
    refine mwp_skip <| mwp_seq <| qR rfl <| qA rfl rfl rfl <| qN <| mwp_ret ?_
    exact ret_tmp (.inr rfl) Try.results82 rfl (.of_eq (by unfold cmpF; simp_all)) (.int _ _) ⟨rfl, rfl⟩
end Go.Proofs.Ythkikhggmbiffaa
end
section
set_option linter.unusedVariables false
set_option linter.unusedSimpArgs false
set_option maxRecDepth 20000
set_option maxHeartbeats 400000
namespace Go.Proofs.Ythkikhggmbiffaa
open Go Go.MV
theorem not_dec {p : Prop} [Decidable p] (h : (!decide p) = false) : p := by simpa using h
theorem two_of {ins : List Sch} (h : partsF 5 = (ins.length : Int)) : ∃ x y, ins = [x, y] := by
 have h2 : ins.length = 2 := by
  have : partsF 5 = 2 := by decide
  omega
 match ins, h2 with
 | [x, y], _ => exact ⟨x, y, rfl⟩
theorem xEqual_spec (a b : List Bs) (S : MS) : MCalls Try.prog 88 [.lst none 1 (a.map encX), .lst none 1 (b.map encX)] S fun v σ' => v = .bool (decide (a = b)) ∧ σ' = S := by
 refine mcalls_body Try.func88 rfl Try.ntmps88 (Nat.le_of_ble_eq_true rfl) ?_
 refine mwp_len (t := 0) rfl fun hlen => ?_
 rw [List.length_map] at hlen
 refine mwp_seq <| qR rfl <| qA rfl rfl rfl <| qN <| mwp_seq <| mwp_seq <| qR rfl <| qM rfl rfl rfl <| qE rfl rfl Try.underlying25 rfl <| qM rfl rfl rfl <| qE rfl rfl Try.underlying25 rfl <| qC rfl rfl rfl rfl rfl <| qN ?_
 refine mwp_cond_split rfl (fun h10 => ?_) (fun h10 => ?_)
 ·
  refine mwp_seq <| qR rfl <| qA rfl rfl rfl <| qN <| mwp_ret ?_
  exact ret_tmp (.inr rfl) Try.results88 rfl (.of_eq (by congr 1; symm; rw [decide_eq_false_iff_not]; intro e; subst e; simp at h10)) (.bool _) ⟨rfl, rfl⟩
 ·
  have hab : a.length = b.length := by simp at h10; omega
  refine mwp_skip <| mwp_seq <| mwp_seq <| qR rfl <| qM rfl rfl rfl <| qE rfl rfl Try.underlying25 rfl <| qM rfl rfl rfl <| qN <| mwp_block ?_
  refine mwp_loopK (α := Nat) [(0, _), (1, _), (12, _)] (fun i => [(13, .int .i64 (i : Int))]) (fun i => []) (fun i => i ≤ a.length ∧ a.take i = b.take i) (fun i => a.length - i) (0) (.keep rfl (.keep rfl (.keep rfl (.nil)))) (.keep rfl (.nil)) (⟨by omega, rfl⟩) (rfl) ?_
  rintro i ⟨hi, heq⟩
  refine mwp_seq <| qR rfl <| qC rfl rfl rfl rfl rfl <| qN <| mwp_seq ?_
  refine mwp_cond_split rfl (fun h14 => ?_) (fun h14 => ?_)
  ·
   have hlt : i < a.length := by simpa using h14
   obtain ⟨x, hs⟩ : ∃ q_, a[i]? = some q_ := ⟨_, List.getElem?_eq_getElem hlt⟩
   obtain ⟨y, hs2⟩ : ∃ s, b[i]? = some s := ⟨_, List.getElem?_eq_getElem (by omega)⟩
   refine mwp_skip <| mwp_seq <| mwp_block <| mwp_seq <| qR rfl <| qM rfl rfl rfl <| qA rfl rfl rfl <| qN <| mwp_seq ?_
   refine mwp_draw [] [_] mo (by decide) rfl rfl rfl rfl ?_
   refine dO rfl rfl rfl (op_move rfl rfl ⟨rfl, rfl⟩) <| dO rfl rfl rfl (op_move rfl rfl ⟨rfl, rfl⟩) <| dO rfl rfl rfl (op_indexAddr rfl Try.underlying25 sz9 (by decide) rfl rfl rfl (get_map hs) ⟨rfl, rfl⟩) ?_
   refine dO rfl rfl rfl (op_load_sptr rfl rfl ta9 rfl ⟨rfl, rfl⟩) <| dO rfl rfl rfl (op_move rfl rfl ⟨rfl, rfl⟩) <| dO rfl rfl rfl (op_move rfl rfl ⟨rfl, rfl⟩) <| dO rfl rfl rfl (op_indexAddr rfl Try.underlying25 sz9 (by decide) rfl rfl rfl (get_map hs2) ⟨rfl, rfl⟩) ?_
   refine dO rfl rfl rfl (op_load_sptr rfl rfl ta9 rfl ⟨rfl, rfl⟩) <| dO rfl rfl rfl (op_strcmp rfl rfl rfl rfl ⟨rfl, rfl⟩) <| dOps_nil ?_
   refine mwp_cond_split rfl (fun h24 => ?_) (fun h24 => ?_)
   ·
    refine mwp_seq <| qR rfl <| qA rfl rfl rfl <| qN <| mwp_ret ?_
    exact ret_tmp (.inr rfl) Try.results88 rfl (.of_eq (by congr 1; symm; rw [decide_eq_false_iff_not]; intro e; subst e; rw [hs2] at hs; injection hs with hs; subst hs; simp at h24)) (.bool _) ⟨rfl, rfl⟩
   ·
    refine mwp_skip <| qR rfl <| qO rfl <| op_arith rfl rfl rfl rfl <| qM rfl rfl rfl <| qN ?_
    refine ⟨i + 1, by omega, ⟨by omega, ?_⟩, rfl, (.keep rfl (.keep rfl (.keep rfl (.nil)))), (.eq rfl (int_succ hlt hlen) (.nil))⟩
    rw [List.take_add_one, List.take_add_one, hs, hs2, heq]
    simp at h24
    rw [h24]
  ·
   have hge : i = a.length := by simp at h14; omega
   refine mwp_exit <| mwp_seq <| qR rfl <| qA rfl rfl rfl <| qN <| mwp_ret ?_
   exact ret_tmp (.inr rfl) Try.results88 rfl (.of_eq (by congr 1; symm; rw [decide_eq_true_iff]; rw [hge, List.take_length, hab, List.take_length] at heq; exact heq)) (.bool _) ⟨rfl, rfl⟩
theorem cEqualF_spec (a b : List (List Tk)) (S : MS) : MCalls Try.prog 102 [.lst none 1 (a.map encC), .lst none 1 (b.map encC), .fn (.func 90) [] []] S fun v σ' => v = .bool (decide (a = b)) ∧ σ' = S := by
 refine mcalls_body Try.func102 rfl Try.ntmps102 (Nat.le_of_ble_eq_true rfl) ?_
 refine mwp_len (t := 0) rfl fun hlen => ?_
 rw [List.length_map] at hlen
 refine mwp_seq <| qR rfl <| qA rfl rfl rfl <| qN <| mwp_seq <| mwp_seq <| qR rfl <| qM rfl rfl rfl <| qE rfl rfl Try.underlying26 rfl <| qM rfl rfl rfl <| qE rfl rfl Try.underlying26 rfl <| qC rfl rfl rfl rfl rfl <| qN ?_
 refine mwp_cond_split rfl (fun h14 => ?_) (fun h14 => ?_)
 ·
  refine mwp_seq <| qR rfl <| qA rfl rfl rfl <| qN <| mwp_ret ?_
  exact ret_tmp (.inr rfl) Try.results102 rfl (.of_eq (by congr 1; symm; rw [decide_eq_false_iff_not]; intro e; subst e; simp at h14)) (.bool _) ⟨rfl, rfl⟩
 ·
  have hab : a.length = b.length := by simp at h14; omega
  refine mwp_skip <| mwp_seq <| mwp_seq <| qR rfl <| qM rfl rfl rfl <| qE rfl rfl Try.underlying26 rfl <| qM rfl rfl rfl <| qN <| mwp_block ?_
  refine mwp_loopK (α := Nat) [(1, _), (2, _), (15, _), (16, _)] (fun i => [(17, .int .i64 (i : Int))]) (fun i => []) (fun i => i ≤ a.length ∧ a.take i = b.take i) (fun i => a.length - i) (0) (.keep rfl (.keep rfl (.keep rfl (.keep rfl (.nil))))) (.keep rfl (.nil)) (⟨by omega, rfl⟩) (rfl) ?_
  rintro i ⟨hi, heq⟩
  refine mwp_seq <| qR rfl <| qC rfl rfl rfl rfl rfl <| qN <| mwp_seq ?_
  refine mwp_cond_split rfl (fun h18 => ?_) (fun h18 => ?_)
  ·
   have hlt : i < a.length := by simpa using h18
   obtain ⟨x, hs⟩ : ∃ q_, a[i]? = some q_ := ⟨_, List.getElem?_eq_getElem hlt⟩
   obtain ⟨y, hs2⟩ : ∃ s, b[i]? = some s := ⟨_, List.getElem?_eq_getElem (by omega)⟩
   refine mwp_skip <| mwp_seq <| mwp_block <| mwp_seq <| qR rfl <| qM rfl rfl rfl <| qO rfl <| op_indexAddr rfl Try.underlying26 sz95 (by decide) rfl rfl rfl (get_map hs) ?_
   refine qO rfl <| op_load_sptr rfl rfl ta95 rfl <| qA rfl rfl rfl <| qA rfl rfl rfl <| qN <| mwp_seq <| qR rfl <| qM rfl rfl rfl <| qM rfl rfl rfl <| qO rfl <| op_indexAddr rfl Try.underlying26 sz95 (by decide) rfl rfl rfl (get_map hs2) ?_
   refine qO rfl <| op_load_sptr rfl rfl ta95 rfl <| qA rfl rfl rfl <| qN <| mwp_seq <| qR rfl <| qM rfl rfl rfl <| qM rfl rfl rfl <| qM rfl rfl rfl ?_
   refine wOps_op rfl (op_call rfl rfl rfl co90 ((clkSame_spec x y _).mono ?_))
   rintro _ _ ⟨rfl, rfl⟩
   refine qO rfl <| op_not rfl rfl <| qN ?_
   refine mwp_cond_split rfl (fun h30 => ?_) (fun h30 => ?_)
   ·
    refine mwp_seq <| qR rfl <| qA rfl rfl rfl <| qN <| mwp_ret ?_
    exact ret_tmp (.inr rfl) Try.results102 rfl (.of_eq (by congr 1; symm; rw [decide_eq_false_iff_not]; intro e; subst e; rw [hs2] at hs; injection hs with hs; rw [hs] at h30; simp at h30)) (.bool _) ⟨rfl, rfl⟩
   ·
    refine mwp_skip <| qR rfl <| qO rfl <| op_arith rfl rfl rfl rfl <| qM rfl rfl rfl <| qN ?_
    refine ⟨i + 1, by omega, ⟨by omega, ?_⟩, rfl, (.keep rfl (.keep rfl (.keep rfl (.keep rfl (.nil))))), (.eq rfl (int_succ hlt hlen) (.nil))⟩
    rw [List.take_add_one, List.take_add_one, hs, hs2, heq, not_dec h30]
  ·
   have hge : i = a.length := by simp at h18; omega
   refine mwp_exit <| mwp_seq <| qR rfl <| qA rfl rfl rfl <| qN <| mwp_ret ?_
   exact ret_tmp (.inr rfl) Try.results102 rfl (.of_eq (by congr 1; symm; rw [decide_eq_true_iff]; rw [hge, List.take_length, hab, List.take_length] at heq; exact heq)) (.bool _) ⟨rfl, rfl⟩
theorem cSame_spec (a b : List (List Tk)) (S : MS) : MCalls Try.prog 89 [.lst none 1 (a.map encC), .lst none 1 (b.map encC), .fn (.func 90) [] []] S fun v σ' => v = .bool (decide (a = b)) ∧ σ' = S := by
 refine mcalls_body Try.func89 rfl Try.ntmps89 (Nat.le_of_ble_eq_true rfl) ?_
 refine mwp_seq <| qR rfl <| qA rfl rfl rfl <| qN <| mwp_seq <| qR rfl <| qM rfl rfl rfl <| qM rfl rfl rfl <| qM rfl rfl rfl ?_
 refine wOps_op rfl (op_call rfl rfl rfl co102 ((cEqualF_spec a b _).mono ?_))
 rintro _ _ ⟨rfl, rfl⟩
 refine qA rfl rfl rfl <| qN <| mwp_ret ?_
 exact ret_tmp (.inr rfl) Try.results89 rfl (.of_eq (rfl)) (.bool _) ⟨rfl, rfl⟩
theorem vEqualF_spec (a b : List Val) (ih : ∀ x ∈ a, ∀ (y : Val) (S : MS), MCalls Try.prog 78 [encV x, encV y] S fun v σ' => v = .bool (decide (x = y)) ∧ σ' = S) (S : MS) : MCalls Try.prog 104 [.lst none 5 (encVs a), .lst none 5 (encVs b), .fn (.func 78) [] []] S fun v σ' => v = .bool (decide (a = b)) ∧ σ' = S := by
 refine mcalls_body Try.func104 rfl Try.ntmps104 (Nat.le_of_ble_eq_true rfl) ?_
 refine mwp_len (t := 0) rfl fun hlen => ?_
 rw [encVs_length] at hlen
 refine mwp_seq <| qR rfl <| qA rfl rfl rfl <| qN <| mwp_seq <| mwp_seq <| qR rfl <| qM rfl rfl rfl <| qE rfl rfl Try.underlying27 rfl <| qM rfl rfl rfl <| qE rfl rfl Try.underlying27 rfl <| qC rfl rfl rfl rfl rfl <| qN ?_
 refine mwp_cond_split rfl (fun h14 => ?_) (fun h14 => ?_)
 ·
  rw [encVs_length, encVs_length] at h14
  refine mwp_seq <| qR rfl <| qA rfl rfl rfl <| qN <| mwp_ret ?_
  exact ret_tmp (.inr rfl) Try.results104 rfl (.of_eq (by congr 1; symm; rw [decide_eq_false_iff_not]; intro e; subst e; simp at h14)) (.bool _) ⟨rfl, rfl⟩
 ·
  rw [encVs_length, encVs_length] at h14
  have hab : a.length = b.length := by simp at h14; omega
  refine mwp_skip <| mwp_seq <| mwp_seq <| qR rfl <| qM rfl rfl rfl <| qE rfl rfl Try.underlying27 rfl <| qM rfl rfl rfl <| qN <| mwp_block ?_
  refine mwp_loopKJ (α := Nat) [(1, _), (2, _), (15, _), (16, _)] (fun i => [(17, .int .i64 (i : Int))]) (fun i => []) (fun i => i ≤ a.length ∧ a.take i = b.take i) (fun i => a.length - i) (0) (Nat.le_refl _) (.keep rfl (.keep rfl (.keep rfl (.keep rfl (.nil))))) (.keep rfl (.nil)) (⟨by omega, rfl⟩) (rfl) ?_
  rintro i ⟨hi, heq⟩
  refine mwp_seq <| qR rfl <| qC rfl rfl rfl rfl rfl <| qN <| mwp_seq ?_
  refine mwp_cond_split rfl (fun h18 => ?_) (fun h18 => ?_)
  ·
   rw [encVs_length] at h18
   have hlt : i < a.length := by simpa using h18
   obtain ⟨⟨n1, m1, s1, c1, w1⟩, hs⟩ : ∃ s, a[i]? = some s := ⟨_, List.getElem?_eq_getElem hlt⟩
   obtain ⟨⟨n2, m2, s2, c2, w2⟩, hs2⟩ : ∃ s, b[i]? = some s := ⟨_, List.getElem?_eq_getElem (by omega)⟩
   refine mwp_skip <| mwp_seq <| mwp_block <| mwp_seq <| qR rfl <| qM rfl rfl rfl <| qO rfl <| op_indexAddr rfl Try.underlying27 sz29 (by decide) rfl rfl rfl (encVs_get hs) ?_
   refine qO rfl <| op_load_sptr rfl rfl ta29 rfl <| qO rfl <| op_alloc' rfl zm29 rfl rfl <| qA rfl rfl rfl <| qO rfl <| op_store' rfl rfl rfl rfl sz29 rfl rfl (Nat.le_of_ble_eq_true rfl) rfl <| qN <| mwp_seq <| qR rfl <| qM rfl rfl rfl <| qM rfl rfl rfl <| qO rfl <| op_indexAddr rfl Try.underlying27 sz29 (by decide) rfl rfl rfl (encVs_get hs2) ?_
   refine qO rfl <| op_load_sptr rfl rfl ta29 rfl <| qO rfl <| op_alloc' rfl zm29 rfl rfl <| qO rfl <| op_store' rfl rfl rfl rfl sz29 rfl rfl (Nat.le_of_ble_eq_true rfl) rfl <| qN <| mwp_seq <| qR rfl <| qM rfl rfl rfl <| qL rfl rfl rfl rfl ta29 rfl <| qL rfl rfl rfl rfl ta29 rfl ?_
   refine wOps_op rfl (op_call rfl rfl rfl co78 ((ih _ (List.mem_of_getElem? hs) (.mk n2 m2 s2 c2 w2) _).mono ?_))
   rintro _ _ ⟨rfl, rfl⟩
   refine qO rfl <| op_not rfl rfl <| qN ?_
   refine mwp_cond_split rfl (fun h30 => ?_) (fun h30 => ?_)
   ·
    refine mwp_seq <| qR rfl <| qA rfl rfl rfl <| qN <| mwp_ret ?_
    exact ret_tmp (.inr rfl) Try.results104 rfl (.of_eq (by congr 1; symm; rw [decide_eq_false_iff_not]; intro e; subst e; rw [hs2] at hs; injection hs with hs; rw [hs] at h30; simp at h30)) (.bool _) ⟨rfl, rfl⟩
   ·
    refine mwp_skip <| qR rfl <| qO rfl <| op_arith rfl rfl rfl rfl <| qM rfl rfl rfl <| qN ?_
    refine ⟨i + 1, _, by omega, ⟨by omega, ?_⟩, rfl, .nil, (.old rfl rfl (.old rfl rfl (.old rfl rfl (.old rfl rfl (.nil))))), (.new' rfl (int_succ hlt hlen) (.int _ _) (.nil))⟩
    rw [List.take_add_one, List.take_add_one, hs, hs2, heq, not_dec h30]
  ·
   rw [encVs_length] at h18
   have hge : i = a.length := by simp at h18; omega
   refine mwp_exit <| mwp_seq <| qR rfl <| qA rfl rfl rfl <| qN <| mwp_ret ?_
   exact ret_tmp (.inr rfl) Try.results104 rfl (.of_eq (by congr 1; symm; rw [decide_eq_true_iff]; rw [hge, List.take_length, hab, List.take_length] at heq; exact heq)) (.bool _) ⟨rfl, rfl⟩
theorem vsSame_spec (a b : List Val) (ih : ∀ x ∈ a, ∀ (y : Val) (S : MS), MCalls Try.prog 78 [encV x, encV y] S fun v σ' => v = .bool (decide (x = y)) ∧ σ' = S) (S : MS) : MCalls Try.prog 91 [.lst none 5 (encVs a), .lst none 5 (encVs b), .fn (.func 78) [] []] S fun v σ' => v = .bool (decide (a = b)) ∧ σ' = S := by
 refine mcalls_body Try.func91 rfl Try.ntmps91 (Nat.le_of_ble_eq_true rfl) ?_
 refine mwp_seq <| qR rfl <| qA rfl rfl rfl <| qN <| mwp_seq <| qR rfl <| qM rfl rfl rfl <| qM rfl rfl rfl <| qM rfl rfl rfl ?_
 refine wOps_op rfl (op_call rfl rfl rfl co104 ((vEqualF_spec a b ih _).mono ?_))
 rintro _ _ ⟨rfl, rfl⟩
 refine qA rfl rfl rfl <| qN <| mwp_ret ?_
 exact ret_tmp (.inr rfl) Try.results91 rfl (.of_eq (rfl)) (.bool _) ⟨rfl, rfl⟩
theorem vSame_spec (d : Nat) : ∀ (a b : Val), vdepth a ≤ d → ∀ S : MS, MCalls Try.prog 78 [encV a, encV b] S fun v σ' => v = .bool (decide (a = b)) ∧ σ' = S := by
 induction d with
 | zero => rintro ⟨n, m, s, c, w⟩ b h; simp [vdepth] at h
 | succ d ih =>
 rintro ⟨n, m, s, c, w⟩ ⟨n2, m2, s2, c2, w2⟩ hd S
 have hmem : ∀ x ∈ w, vdepth x ≤ d := fun x hx => by have := vdepth_mem hx; rw [vdepth] at hd; omega
 refine mcalls_body Try.func78 rfl Try.ntmps78 (Nat.le_of_ble_eq_true rfl) ?_
 refine mwp_seq <| qR rfl <| qB rfl rfl rfl rfl rfl <| qB rfl rfl rfl rfl rfl <| qA rfl rfl rfl <| qN <| mwp_seq <| qR rfl <| qF rfl rfl rfl fo29_0 <| qL rfl rfl rfl rfl ta22 rfl <| qF rfl rfl rfl fo29_0 <| qL rfl rfl rfl rfl ta22 rfl <| qC rfl rfl rfl rfl rfl <| qM rfl rfl rfl ?_
 refine wOps_case (fun h10 => ?_) (fun h10 => ?_)
 ·
  refine qF rfl rfl rfl fo29_1 <| qL rfl rfl rfl rfl ta22 rfl <| qF rfl rfl rfl fo29_1 <| qL rfl rfl rfl rfl ta22 rfl <| qC rfl rfl rfl rfl rfl <| qP rfl rfl rfl rfl <| qM rfl rfl rfl ?_
  refine wOps_case (fun h17 => ?_) (fun h17 => ?_)
  ·
   refine qF rfl rfl rfl fo29_2 <| qL rfl rfl rfl rfl ta25 rfl <| qF rfl rfl rfl fo29_2 <| qL rfl rfl rfl rfl ta25 rfl ?_
   refine wOps_op rfl (op_call rfl rfl rfl co88 ((xEqual_spec s s2 _).mono ?_))
   rintro _ _ ⟨rfl, rfl⟩
   refine qP rfl rfl rfl rfl <| qM rfl rfl rfl ?_
   refine wOps_case (fun h24 => ?_) (fun h24 => ?_)
   ·
    refine qF rfl rfl rfl fo29_3 <| qL rfl rfl rfl rfl ta26 rfl <| qF rfl rfl rfl fo29_3 <| qL rfl rfl rfl rfl ta26 rfl ?_
    refine wOps_op rfl (op_call rfl rfl rfl co89 ((cSame_spec c c2 _).mono ?_))
    rintro _ _ ⟨rfl, rfl⟩
    refine qP rfl rfl rfl rfl <| qM rfl rfl rfl ?_
    refine wOps_case (fun h31 => ?_) (fun h31 => ?_)
    ·
     refine qF rfl rfl rfl fo29_4 <| qL rfl rfl rfl rfl ta27 rfl <| qF rfl rfl rfl fo29_4 <| qL rfl rfl rfl rfl ta27 rfl ?_
     refine wOps_op rfl (op_call rfl rfl rfl co91 ((vsSame_spec w w2 (fun x hx y S => ih x y (hmem x hx) S) _).mono ?_))
     rintro _ _ ⟨rfl, rfl⟩
     refine qP rfl rfl rfl rfl <| qA rfl rfl rfl <| qN <| mwp_ret ?_
     exact ret_tmp (.inr rfl) Try.results78 rfl (.of_eq (by congr 1; rw [Bool.eq_iff_iff]; simp_all)) (.bool _) ⟨rfl, rfl⟩
    ·
     refine qS rfl <| qS rfl <| qS rfl <| qS rfl <| qS rfl <| qP rfl rfl rfl rfl <| qA rfl rfl rfl <| qN <| mwp_ret ?_
     exact ret_tmp (.inr rfl) Try.results78 rfl (.of_eq (by congr 1; rw [Bool.eq_iff_iff]; simp_all)) (.bool _) ⟨rfl, rfl⟩
   ·
    refine qS rfl <| qS rfl <| qS rfl <| qS rfl <| qS rfl <| qP rfl rfl rfl rfl <| qM rfl rfl rfl <| qS rfl <| qS rfl <| qS rfl <| qS rfl <| qS rfl <| qP rfl rfl rfl rfl <| qA rfl rfl rfl <| qN <| mwp_ret ?_
    exact ret_tmp (.inr rfl) Try.results78 rfl (.of_eq (by congr 1; rw [Bool.eq_iff_iff]; simp_all)) (.bool _) ⟨rfl, rfl⟩
  ·
   refine qS rfl <| qS rfl <| qS rfl <| qS rfl <| qS rfl <| qP rfl rfl rfl rfl <| qM rfl rfl rfl <| qS rfl <| qS rfl <| qS rfl <| qS rfl <| qS rfl <| qP rfl rfl rfl rfl <| qM rfl rfl rfl <| qS rfl <| qS rfl <| qS rfl <| qS rfl <| qS rfl <| qP rfl rfl rfl rfl <| qA rfl rfl rfl <| qN <| mwp_ret ?_
   exact ret_tmp (.inr rfl) Try.results78 rfl (.of_eq (by congr 1; rw [Bool.eq_iff_iff]; simp_all)) (.bool _) ⟨rfl, rfl⟩
 ·
  refine qS rfl <| qS rfl <| qS rfl <| qS rfl <| qS rfl <| qP rfl rfl rfl rfl <| qM rfl rfl rfl <| qS rfl <| qS rfl <| qS rfl <| qS rfl <| qS rfl <| qP rfl rfl rfl rfl <| qM rfl rfl rfl <| qS rfl <| qS rfl <| qS rfl <| qS rfl <| qS rfl <| qP rfl rfl rfl rfl <| qM rfl rfl rfl <| qS rfl <| qS rfl <| qS rfl ?_
  refine qS rfl <| qS rfl <| qP rfl rfl rfl rfl <| qA rfl rfl rfl <| qN <| mwp_ret ?_
  exact ret_tmp (.inr rfl) Try.results78 rfl (.of_eq (by congr 1; rw [Bool.eq_iff_iff]; simp_all)) (.bool _) ⟨rfl, rfl⟩
theorem valSame_spec (a b : Val) (S : MS) : MCalls Try.prog 78 [encV a, encV b] S fun v σ' => v = .bool (decide (a = b)) ∧ σ' = S := vSame_spec _ a b (Nat.le_refl _) S
theorem bottom_spec (d : Nat) : ∀ (s : Sch), isF d s = true → ∀ S : MS, MCalls Try.prog 92 [encS s] S fun v σ' => v = encV (bottomF s) ∧ σ' = S := by
 induction d with
 | zero => intro s h; simp [isF] at h
 | succ d ih =>
 rintro ⟨k, ins⟩ hd S
 rw [isF] at hd
 simp only [Bool.and_eq_true, List.all_eq_true, beq_iff_eq] at hd
 refine mcalls_body Try.func92 rfl Try.ntmps92 (Nat.le_of_ble_eq_true rfl) ?_
 refine mwp_seq <| qR rfl <| qB rfl rfl rfl rfl rfl <| qO rfl <| op_alloc' rfl zm29 rfl rfl <| qN <| mwp_seq <| qR rfl <| qO rfl <| op_alloc' rfl zm29 rfl rfl <| qN <| mwp_seq <| mwp_seq <| qR rfl <| qF rfl rfl rfl fo36_0 <| qL rfl rfl rfl rfl ta3 rfl <| qC rfl rfl rfl rfl rfl <| qN ?_
 refine mwp_cond_split rfl (fun h6 => ?_) (fun h6 => ?_)
 ·
  have hk : k = 5 := by simpa using h6
  subst hk
  obtain ⟨⟨k1, i1⟩, ⟨k2, i2⟩, rfl⟩ := two_of hd.1
  obtain ⟨⟨n1, m1, s1, c1, w1⟩, e1⟩ : ∃ v, bottomF (.mk k1 i1) = v := ⟨_, rfl⟩
  obtain ⟨⟨n2, m2, s2, c2, w2⟩, e2⟩ : ∃ v, bottomF (.mk k2 i2) = v := ⟨_, rfl⟩
  have ih1 := ih (.mk k1 i1) (hd.2 _ (by simp))
  have ih2 := ih (.mk k2 i2) (hd.2 _ (by simp))
  simp only [e1] at ih1
  simp only [e2] at ih2
  have hbot : bottomF (.mk 5 [.mk k1 i1, .mk k2 i2]) = .mk 0 0 [] [] [.mk n1 m1 s1 c1 w1, .mk n2 m2 s2 c2 w2] := by rw [bottomF, if_pos rfl, bottomL, bottomL, bottomL, e1, e2]
  refine mwp_draw [12] [_, S ++ [.cells (encS (.mk 5 [.mk k1 i1, .mk k2 i2])).cells, .cells [.int .u64 0, .int .u64 0, .lst0, .lst0, .lst0], .cells [.int .u64 0, .int .u64 0, .lst0, .lst0, .lst none 5 [encV (.mk n1 m1 s1 c1 w1), encV (.mk n2 m2 s2 c2 w2)]]]] mo (by decide) rfl rfl rfl rfl ?_
  refine dO rfl rfl rfl (op_fieldAddr_ref rfl rfl fo36_1 ⟨rfl, rfl⟩) <| dO rfl rfl rfl (op_load' rfl rfl rfl ta34 rfl ⟨rfl, rfl⟩) <| dO rfl rfl rfl (op_indexAddr rfl Try.underlying34 sz36 (by decide) rfl rfl rfl (show _ = some (encS (.mk k1 i1)) from rfl) ⟨rfl, rfl⟩) ?_
  refine dO rfl rfl rfl (op_load_sptr rfl rfl ta36 rfl ⟨rfl, rfl⟩) <| dOps_op rfl rfl (.cons (op_call rfl rfl rfl co92 (ih1 _)) .nil) <| dO rfl rfl rfl (op_fieldAddr_ref rfl rfl fo36_1 ⟨rfl, rfl⟩) <| dO rfl rfl rfl (op_load' rfl rfl rfl ta34 rfl ⟨rfl, rfl⟩) <| dO rfl rfl rfl (op_indexAddr rfl Try.underlying34 sz36 (by decide) rfl rfl rfl (show _ = some (encS (.mk k2 i2)) from rfl) ⟨rfl, rfl⟩) ?_
  refine dO rfl rfl rfl (op_load_sptr rfl rfl ta36 rfl ⟨rfl, rfl⟩) <| dOps_op rfl rfl (.cons (op_call rfl rfl rfl co92 (ih2 _)) .nil) <| dO rfl rfl rfl (op_buildSlice rfl Try.underlying27 el29 rfl rfl (by decide) (by decide) rfl rfl ⟨rfl, rfl⟩) ?_
  refine dO rfl rfl rfl (op_fieldAddr_ref rfl rfl fo29_4 ⟨rfl, rfl⟩) <| dOps_eff rfl rfl rfl rfl (op_store' rfl rfl rfl rfl sz27 rfl rfl (Nat.le_of_ble_eq_true rfl) rfl ⟨rfl, rfl⟩) <| dOps_nil <| mwp_seq <| qR rfl <| qL rfl rfl rfl rfl ta29 rfl <| qO rfl <| op_store' rfl rfl rfl rfl sz29 rfl rfl (Nat.le_of_ble_eq_true rfl) rfl <| qN <| mwp_ret ?_
  rw [hbot]
  exact ret_cell (.inr rfl) Try.results92 rfl rfl ta29 rfl (by first | exact (.agg (.cons (.refl _) (.cons (.refl _) (.cons (.nil _) (.cons (.nil _) (.cons (.nil _) .nil)))))) | exact (.agg (.cons (.refl _) (.cons (.refl _) (.cons (.nil _) (.cons (.nil _) (.cons (.refl _) .nil))))))) (cl_encV _ _) ⟨rfl, rfl⟩
 ·
  have hk : ¬ k = 5 := by simpa using h6
  have hbot : bottomF (.mk k ins) = noV := by simp [bottomF, hk]
  refine mwp_skip <| mwp_seq <| qR rfl <| qL rfl rfl rfl rfl ta29 rfl <| qO rfl <| op_store' rfl rfl rfl rfl sz29 rfl rfl (Nat.le_of_ble_eq_true rfl) rfl <| qN <| mwp_ret ?_
  rw [hbot]
  exact ret_cell (.inr rfl) Try.results92 rfl rfl ta29 rfl (by first | exact (.agg (.cons (.refl _) (.cons (.refl _) (.cons (.nil _) (.cons (.nil _) (.cons (.nil _) .nil)))))) | exact (.agg (.cons (.refl _) (.cons (.refl _) (.cons (.nil _) (.cons (.nil _) (.cons (.refl _) .nil))))))) (cl_encV _ _) ⟨rfl, rfl⟩
theorem Bottom_spec (s : Sch) (S : MS) : MCalls Try.prog 79 [encS s] S fun v σ' => v = encV (BottomF s) ∧ σ' = S := by
 obtain ⟨k, ins⟩ := s
 refine mcalls_body Try.func79 rfl Try.ntmps79 (Nat.le_of_ble_eq_true rfl) ?_
 refine mwp_seq <| qR rfl <| qB rfl rfl rfl rfl rfl <| qO rfl <| op_alloc' rfl zm29 rfl rfl <| qN <| mwp_seq <| mwp_seq <| qR rfl <| qL rfl rfl rfl rfl ta36 rfl ?_
 refine wOps_op rfl (op_call rfl rfl rfl co22 ((Is_spec (.mk k ins) _).mono ?_))
 rintro _ _ ⟨rfl, rfl⟩
 refine qO rfl <| op_not rfl rfl <| qN ?_
 refine mwp_cond_split rfl (fun h5 => ?_) (fun h5 => ?_)
 ·
  have hb : BottomF (.mk k ins) = noV := by unfold BottomF; rw [if_neg (by simpa using h5)]
  refine mwp_seq <| qR rfl <| qO rfl <| op_build rfl Try.underlying29 zm29 .nil (by kernel_rfl) ?_
  refine qO rfl <| op_store' rfl rfl rfl rfl sz29 rfl rfl (Nat.le_of_ble_eq_true rfl) rfl <| qN <| mwp_ret ?_
  rw [hb]
  exact ret_cell (y := encV (noV)) (.inr rfl) Try.results79 rfl rfl ta29 rfl (.agg (.cons (.refl _) (.cons (.refl _) (.cons (.nil _) (.cons (.nil _) (.cons (.nil _) .nil)))))) (cl_encV _ _) ⟨rfl, rfl⟩
 ·
  have his : isF 16 (.mk k ins) = true := by simpa using h5
  obtain ⟨⟨n1, m1, s1, c1, w1⟩, e1⟩ : ∃ v, bottomF (.mk k ins) = v := ⟨_, rfl⟩
  have bs := bottom_spec 16 (.mk k ins) his
  simp only [e1] at bs
  have hb : BottomF (.mk k ins) = .mk n1 m1 s1 c1 w1 := by unfold BottomF; rw [if_pos his, e1]
  refine mwp_skip <| mwp_seq <| qR rfl <| qL rfl rfl rfl rfl ta36 rfl ?_
  refine wOps_op rfl (op_call rfl rfl rfl co92 ((bs _).mono ?_))
  rintro _ _ ⟨rfl, rfl⟩
  refine qO rfl <| op_store' rfl rfl rfl rfl sz29 rfl rfl (Nat.le_of_ble_eq_true rfl) rfl <| qN <| mwp_ret ?_
  rw [hb]
  exact ret_cell (y := encV (.mk n1 m1 s1 c1 w1)) (.inr rfl) Try.results79 rfl rfl ta29 rfl (.refl _) (cl_encV _ _) ⟨rfl, rfl⟩
theorem None_spec (s : Sch) (x : Val) (S : MS) : MCalls Try.prog 66 [encS s, encV x] S fun v σ' => v = .bool (noneF s x) ∧ σ' = S := by
 obtain ⟨k, ins⟩ := s
 obtain ⟨n, m, s, c, w⟩ := x
 refine mcalls_body Try.func66 rfl Try.ntmps66 (Nat.le_of_ble_eq_true rfl) ?_
 refine mwp_seq <| qR rfl <| qB rfl rfl rfl rfl rfl <| qB rfl rfl rfl rfl rfl <| qA rfl rfl rfl <| qN <| mwp_seq ?_
 refine mwp_draw [] [_] mo (by decide) rfl rfl rfl rfl ?_
 refine dO rfl rfl rfl (op_load' rfl rfl rfl ta36 rfl ⟨rfl, rfl⟩) <| dOps_op rfl rfl (.cons (op_call rfl rfl rfl co79 (Bottom_spec (.mk k ins) _)) .nil) <| dO rfl rfl rfl (op_load' rfl rfl rfl ta29 rfl ⟨rfl, rfl⟩) <| dOps_op rfl rfl (.cons (op_call rfl rfl rfl co78 (valSame_spec (BottomF (.mk k ins)) (.mk n m s c w) _)) .nil) <| dO rfl rfl rfl (op_assign rfl rfl ⟨rfl, rfl⟩) <| dOps_nil <| mwp_ret ?_
 exact ret_tmp (.inr rfl) Try.results66 rfl (.of_eq (rfl)) (.bool _) ⟨rfl, rfl⟩
end Go.Proofs.Ythkikhggmbiffaa
end
section
set_option linter.unusedVariables false
set_option linter.unusedSimpArgs false
set_option maxRecDepth 20000
set_option maxHeartbeats 400000
namespace Go.Proofs.Ythkikhggmbiffaa
open Go Go.MV
def pairsY (l : List Bs) : List (List MV) := (List.range (l.length - 1)).map fun i => [encX (l.getD i []), encX (l.getD (i + 1) [])]
theorem pairsY_len (l : List Bs) : (pairsY l).length = l.length - 1 := by simp [pairsY]
theorem pairsY_get {l : List Bs} {i : Nat} {a b : Bs} (ha : l[i]? = some a) (hb : l[i + 1]? = some b) : (pairsY l)[i]? = some [encX a, encX b] := by
 have h1 := (List.getElem?_eq_some_iff.1 hb).1
 unfold pairsY
 rw [List.getElem?_map, List.getElem?_range (by omega)]
 simp [ha, hb]
theorem rises_iff : ∀ l : List Bs, risesF l = true ↔ ∀ i, i + 1 < l.length → Op.bytesLess (l.getD i []) (l.getD (i + 1) []) = true
 | [] => by simp [risesF]
 | [a] => by simp [risesF]
 | a :: b :: l => by
  rw [risesF, Bool.and_eq_true, rises_iff (b :: l)]
  constructor
  ·rintro ⟨h1, h2⟩ i hi
   cases i with
   | zero => simpa using h1
   | succ i => simpa using h2 i (by simpa using hi)
  ·intro h
   exact ⟨by simpa using h 0 (by simp), fun i hi => by simpa using h (i + 1) (by simpa using hi)⟩
def twoY (l : List (List Tk)) : List (List Tk × List Tk) := match l with
 | [] => []
 | a :: l => l.map (fun b => (a, b)) ++ twoY l
def encP (p : List Tk × List Tk) : List MV := [encC p.1, encC p.2]
theorem two_iff : ∀ l : List (List Tk), pairsF l = true ↔ ∀ p ∈ twoY l, pairF p.1 p.2 = true
 | [] => by simp [pairsF, twoY]
 | a :: l => by
  rw [pairsF, twoY, Bool.and_eq_true, two_iff l, List.all_eq_true]
  simp only [List.mem_append, List.mem_map]
  constructor
  ·rintro ⟨h1, h2⟩ p (⟨b, hb, rfl⟩ | hp)
   ·exact h1 b hb
   ·exact h2 p hp
  ·intro h
   exact ⟨fun b hb => h (a, b) (.inl ⟨b, hb, rfl⟩), fun p hp => h p (.inr hp)⟩
theorem drop_cons_get {α : Type} {l r : List α} {a : α} {j : Nat} (h : a :: r = l.drop j) : l[j]? = some a ∧ r = l.drop (j + 1) := by
 have h1 := congrArg (fun q => q[0]?) h
 have h2 := congrArg (List.drop 1) h
 simp only [List.getElem?_cons_zero, List.getElem?_drop, Nat.add_zero] at h1
 refine ⟨h1.symm, ?_⟩
 simpa [List.drop_drop] using h2
theorem drop_nil_len {α : Type} {l : List α} {j : Nat} (h : [] = l.drop j) : l.length ≤ j := by
 have := congrArg List.length h
 simp at this
 omega
theorem drop_at {α : Type} {l : List α} {i : Nat} {a : α} (h : l[i]? = some a) : l.drop i = a :: l.drop (i + 1) := by
 obtain ⟨hlt, e⟩ := List.getElem?_eq_some_iff.1 h
 rw [List.drop_eq_getElem_cons hlt, e]
theorem two_mem : ∀ {l : List (List Tk)} {a b : List Tk}, (a, b) ∈ twoY l → a ∈ l ∧ b ∈ l
 | [], a, b, h => by simp [twoY] at h
 | x :: l, a, b, h => by
  rw [twoY, List.mem_append] at h
  rcases h with h | h
  ·obtain ⟨y, hy, e⟩ := List.mem_map.1 h
   injection e with e1 e2
   subst e1 e2
   exact ⟨List.mem_cons_self .., List.mem_cons_of_mem _ hy⟩
  ·have := two_mem h
   exact ⟨List.mem_cons_of_mem _ this.1, List.mem_cons_of_mem _ this.2⟩
theorem clock_len {c : List Tk} (h : isClockF c = true) : c.length ≤ 40 := by
 unfold isClockF at h
 simp at h
 omega
def orF (l : List Int) : Int := (l.find? (· != 0)).getD 0
theorem or_two (a b : Int) : orF [a, b] = if a ≠ 0 then a else b := by
 unfold orF
 by_cases h : a = 0
 ·by_cases h2 : b = 0
  ·simp [h, h2]
  ·simp [h, h2]
 ·simp [h]
theorem or_cons (a : Int) (l : List Int) : orF (a :: l) = if a ≠ 0 then a else orF l := by
 unfold orF
 by_cases h : a = 0 <;> simp [h]
def encI (n : Int) : MV := .int .i64 n
theorem ticks_at {a b : List Tk} {i : Nat} {x y : Tk} (ha : a[i]? = some x) (hb : b[i]? = some y) : byTicksF (a.drop i) (b.drop i) = if tickC x y ≠ 0 then tickC x y else byTicksF (a.drop (i + 1)) (b.drop (i + 1)) := by
 rw [drop_at ha, drop_at hb, byTicksF]
def findGo {α : Type} (p : α → Bool) : Nat → List α → Int
 | _, [] => -1
 | i, x :: l => if p x then (i : Int) else findGo p (i + 1) l
theorem find_any {α : Type} (p : α → Bool) : ∀ (i : Nat) (l : List α), decide (0 ≤ findGo p i l) = l.any p
 | _, [] => by simp [findGo]
 | i, x :: l => by
  rw [findGo, List.any_cons]
  split
  ·rename_i h; simp [h]
  ·rename_i h; rw [find_any p (i + 1) l]; simp [h]
theorem find_at {α : Type} {p : α → Bool} {l : List α} {i : Nat} {x : α} (h : l[i]? = some x) : findGo p i (l.drop i) = if p x then (i : Int) else findGo p (i + 1) (l.drop (i + 1)) := by
 rw [drop_at h, findGo]
theorem pairs_iter (l : List Bs) (hlen : l.length ≤ maxLen) (bid l0 : Nat) : IterOk Try.prog 101 [] [.ref bid 0] (pairsY l) (fun σ => σ.length = l0 ∧ σ[bid]? = some (.cells [.lst none 1 (l.map encX)])) := by
 refine iterOk_of fun id T m hok hm hyt hyf => ?_
 refine mcalls_body Try.func101 rfl Try.ntmps101 (Nat.le_of_ble_eq_true rfl) ?_
 rw [List.append_nil]
 show mwp _ _ _ _ _ _ _ (([] : MS) ++ T 0)
 refine mwp_seq <| qR rfl <| qA rfl rfl rfl <| qN <| mwp_block ?_
 refine mwp_loopK (α := Nat) [(0, _), (1, _)] (fun j => [(3, .int .i64 ((j + 1 : Nat) : Int))]) (fun j => T j) (fun j => j ≤ m) (fun j => m + 1 - j) (0) (.keep rfl (.keep rfl (.nil))) (.keep rfl (.nil)) (by omega) (rfl) ?_
 rintro j hj
 refine mwp_seq <| mwp_seq <| qR rfl <| qM rfl rfl rfl <| qO rfl <| op_load_ref rfl rfl (hok _).2 ta111 rfl <| qE rfl rfl Try.underlying111 rfl <| qC rfl rfl rfl rfl rfl <| qN ?_
 refine mwp_cond_split rfl (fun h7 => ?_) (fun h7 => ?_)
 ·
  have hlt : j + 1 < l.length := by rw [List.length_map] at h7; simp at h7; omega
  obtain ⟨a, hs⟩ : ∃ a, l[j]? = some a := ⟨_, List.getElem?_eq_getElem (by omega)⟩
  obtain ⟨b, hs2⟩ : ∃ a, l[j + 1]? = some a := ⟨_, List.getElem?_eq_getElem hlt⟩
  have hy := pairsY_get hs hs2
  have hjl : j < (pairsY l).length := (List.getElem?_eq_some_iff.1 hy).1
  refine mwp_skip <| mwp_seq <| mwp_block <| mwp_seq ?_
  rcases Nat.lt_or_eq_of_le hj with hjm | hjm
  ·
   refine mwp_draw [10] [_, T (j + 1)] mo (by decide) rfl rfl rfl rfl ?_
   refine dO rfl rfl rfl (op_move rfl rfl ⟨rfl, rfl⟩) <| dOps_op rfl rfl (.cons (op_load_ref rfl rfl (hok _).2 ta111 rfl ⟨rfl, rfl⟩) (.cons (op_load_ref rfl rfl (hok _).2 ta111 rfl ⟨rfl, rfl⟩) (.nil))) <| dOps_op rfl rfl (.cons (op_move rfl rfl ⟨rfl, rfl⟩) (.cons (op_move rfl rfl ⟨rfl, rfl⟩) (.nil))) <| dOps_op rfl rfl (.cons (op_arith rfl rfl rfl (wsub (a := j + 1) (b := 1) (c := j) (by omega) (by simp only [maxLen] at hlen; omega)) ⟨rfl, rfl⟩) (.cons (op_arith rfl rfl rfl (wsub (a := j + 1) (b := 1) (c := j) (by omega) (by simp only [maxLen] at hlen; omega)) ⟨rfl, rfl⟩) (.nil))) ?_
   refine dOps_op rfl rfl (.cons (op_indexAddr rfl Try.underlying111 sz9 (by decide) rfl rfl rfl (get_map hs) ⟨rfl, rfl⟩) (.cons (op_indexAddr rfl Try.underlying111 sz9 (by decide) rfl rfl rfl (get_map hs) ⟨rfl, rfl⟩) (.nil))) ?_
   refine dO rfl rfl rfl (op_load_sptr rfl rfl ta9 rfl ⟨rfl, rfl⟩) <| dOps_op rfl rfl (.cons (op_load_ref rfl rfl (hok _).2 ta111 rfl ⟨rfl, rfl⟩) (.cons (op_load_ref rfl rfl (hok _).2 ta111 rfl ⟨rfl, rfl⟩) (.nil))) <| dOps_op rfl rfl (.cons (op_move rfl rfl ⟨rfl, rfl⟩) (.cons (op_move rfl rfl ⟨rfl, rfl⟩) (.nil))) <| dOps_op rfl rfl (.cons (op_indexAddr rfl Try.underlying111 sz9 (by decide) rfl rfl rfl (get_map hs2) ⟨rfl, rfl⟩) (.cons (op_indexAddr rfl Try.underlying111 sz9 (by decide) rfl rfl rfl (get_map hs2) ⟨rfl, rfl⟩) (.nil))) ?_
   refine dO rfl rfl rfl (op_load_sptr rfl rfl ta9 rfl ⟨rfl, rfl⟩) <| dOps_eff rfl rfl rfl rfl ((hyt j _ hjm hy).at0 rfl rfl rfl) <| dO rfl rfl rfl (op_not rfl rfl ⟨rfl, rfl⟩) <| dOps_nil <| mwp_cond_f rfl (rfl) <| mwp_skip <| qR rfl <| qM rfl rfl rfl <| qO rfl <| op_arith rfl rfl rfl rfl <| qA rfl rfl rfl <| qN ?_
   refine ⟨j + 1, by omega, by omega, rfl, (.keep rfl (.keep rfl (.nil))), (.eq rfl (int_succ hlt hlen) (.nil))⟩
  ·
   refine mwp_draw [10] [_, T (j + 1)] mo (by decide) rfl rfl rfl rfl ?_
   refine dO rfl rfl rfl (op_move rfl rfl ⟨rfl, rfl⟩) <| dOps_op rfl rfl (.cons (op_load_ref rfl rfl (hok _).2 ta111 rfl ⟨rfl, rfl⟩) (.cons (op_load_ref rfl rfl (hok _).2 ta111 rfl ⟨rfl, rfl⟩) (.nil))) <| dOps_op rfl rfl (.cons (op_move rfl rfl ⟨rfl, rfl⟩) (.cons (op_move rfl rfl ⟨rfl, rfl⟩) (.nil))) <| dOps_op rfl rfl (.cons (op_arith rfl rfl rfl (wsub (a := j + 1) (b := 1) (c := j) (by omega) (by simp only [maxLen] at hlen; omega)) ⟨rfl, rfl⟩) (.cons (op_arith rfl rfl rfl (wsub (a := j + 1) (b := 1) (c := j) (by omega) (by simp only [maxLen] at hlen; omega)) ⟨rfl, rfl⟩) (.nil))) ?_
   refine dOps_op rfl rfl (.cons (op_indexAddr rfl Try.underlying111 sz9 (by decide) rfl rfl rfl (get_map hs) ⟨rfl, rfl⟩) (.cons (op_indexAddr rfl Try.underlying111 sz9 (by decide) rfl rfl rfl (get_map hs) ⟨rfl, rfl⟩) (.nil))) ?_
   refine dO rfl rfl rfl (op_load_sptr rfl rfl ta9 rfl ⟨rfl, rfl⟩) <| dOps_op rfl rfl (.cons (op_load_ref rfl rfl (hok _).2 ta111 rfl ⟨rfl, rfl⟩) (.cons (op_load_ref rfl rfl (hok _).2 ta111 rfl ⟨rfl, rfl⟩) (.nil))) <| dOps_op rfl rfl (.cons (op_move rfl rfl ⟨rfl, rfl⟩) (.cons (op_move rfl rfl ⟨rfl, rfl⟩) (.nil))) <| dOps_op rfl rfl (.cons (op_indexAddr rfl Try.underlying111 sz9 (by decide) rfl rfl rfl (get_map hs2) ⟨rfl, rfl⟩) (.cons (op_indexAddr rfl Try.underlying111 sz9 (by decide) rfl rfl rfl (get_map hs2) ⟨rfl, rfl⟩) (.nil))) ?_
   refine dO rfl rfl rfl (op_load_sptr rfl rfl ta9 rfl ⟨rfl, rfl⟩) <| dOps_eff rfl rfl rfl rfl ((hyf j _ hjm hy).at0 rfl rfl rfl) <| dO rfl rfl rfl (op_not rfl rfl ⟨rfl, rfl⟩) <| dOps_nil <| mwp_cond_t rfl (rfl) ?_
   refine mwp_facts fun hcv hcl => ?_
   refine mwp_ret ?_
   exact ret_noneT (S' := T (j + 1)) (by simp) Try.results101 (by rw [(hok _).1, (hok _).1]; exact Nat.le_refl _) hcl ⟨rfl, by rw [hjm, if_pos (by omega)]⟩
 ·
  have hge : l.length ≤ j + 1 := by rw [List.length_map] at h7; simp at h7; omega
  have hpl := pairsY_len l
  have hjm : j = m := by omega
  refine mwp_facts fun hcv hcl => ?_
  refine mwp_exit ?_
  exact ret_noneT (S' := T j) (by simp) Try.results101 (by rw [(hok _).1, (hok _).1]; exact Nat.le_refl _) hcl ⟨rfl, by rw [hjm, if_neg (by rw [pairsY_len]; omega)]⟩
theorem pairs_spec (l : List Bs) (S : MS) : MCalls Try.prog 86 [.lst none 1 (l.map encX)] S fun v σ' => v = .fn (.func 101) [] [.ref S.length 0] ∧ σ' = S ++ [.cells [.lst none 1 (l.map encX)]] := by
 refine mcalls_body Try.func86 rfl Try.ntmps86 (Nat.le_of_ble_eq_true rfl) ?_
 refine mwp_seq <| qR rfl <| qB rfl rfl rfl rfl rfl <| qA rfl rfl rfl <| qN <| mwp_seq <| qR rfl <| qO rfl <| op_makeFunc rfl rfl rfl <| qA rfl rfl rfl <| qN ?_
 refine mwp_facts fun hcv hcl => ?_
 refine mwp_ret ?_
 exact ret_tmpT (.inr rfl) Try.results86 rfl (.refl _) (hcv 2 _ rfl) (by simp) hcl ⟨rfl, rfl⟩
theorem rowsIs_spec (l : List Bs) (S : MS) : MCalls Try.prog 74 [.lst none 1 (l.map encX)] S fun v σ' => v = .bool (risesF l) ∧ σ' = S := by
 refine mcalls_body Try.func74 rfl Try.ntmps74 (Nat.le_of_ble_eq_true rfl) ?_
 refine mwp_len (t := 0) rfl fun hlen => ?_
 rw [List.length_map] at hlen
 refine mwp_seq <| qR rfl <| qO rfl <| op_alloc' rfl zm4 rfl rfl <| qN <| mwp_seq <| mwp_seq <| qR rfl <| qM rfl rfl rfl ?_
 refine wOps_op rfl (op_call rfl rfl rfl co86 ((pairs_spec l _).mono ?_))
 rintro _ _ ⟨rfl, rfl⟩
 rw [List.append_assoc]
 refine qN <| mwp_block ?_
 refine mwp_rangeB (ok := fun σ => σ.length = S.length + 3 ∧ σ[(S ++ [MObj.cells [.bool false]]).length]? = some (.cells [.lst none 1 (l.map encX)])) (ys := pairsY l) .ret (.inl rfl) (fun j => Op.bytesLess (l.getD j []) (l.getD (j + 1) [])) (fun j => ([.cells [.bool false], .cells [.lst none 1 (l.map encX)]] : MS)) (fun j => ([.cells [.bool false], .cells [.lst none 1 (l.map encX)]] : MS)) (fun j => rfl) (fun j => rfl) rfl (fun j o ho n hn => by simp at ho; rcases ho with rfl | rfl <;> intro x hx <;> (simp at hx; subst hx; first | exact .bool _ | exact cl_texts _ _ | exact cl_clocks _ _)) (fun j o ho n hn => by simp at ho; rcases ho with rfl | rfl <;> intro x hx <;> (simp at hx; subst hx; first | exact .bool _ | exact cl_texts _ _ | exact cl_clocks _ _)) rfl co101 rfl (by simp) ((pairs_iter l hlen _ _).weak fun σ h => h.1) (fun j => ⟨by simp, get_box⟩) (fun j s q => ⟨by simp, get_box⟩) rfl (fun y hy => by obtain ⟨i, _, rfl⟩ := List.mem_map.1 hy; rfl) ?_ ?_ ?_
 ·
  intro j y hy hbef L'
  obtain ⟨hjl, hys⟩ := List.getElem?_eq_some_iff.1 hy
  have hpl := pairsY_len l
  obtain ⟨a, hs⟩ : ∃ a, l[j]? = some a := ⟨_, List.getElem?_eq_getElem (by omega)⟩
  obtain ⟨b, hs2⟩ : ∃ a, l[j + 1]? = some a := ⟨_, List.getElem?_eq_getElem (by omega)⟩
  have hyy := pairsY_get hs hs2
  rw [hy] at hyy
  injection hyy with hyy
  subst hyy
  have ha : l.getD j [] = a := by simp [hs]
  have hb : l.getD (j + 1) [] = b := by simp [hs2]
  rw [ha, hb]
  refine mwp_seq <| qR rfl <| qA rfl rfl rfl <| qN <| qR rfl <| qA rfl rfl rfl <| qN ?_
  refine ⟨rfl, [], by rw [List.append_nil], ?_⟩
  rw [List.append_nil]
  refine mwp_block <| mwp_seq <| qR rfl <| qM rfl rfl rfl <| qM rfl rfl rfl <| qO rfl <| op_strcmp rfl rfl rfl rfl <| qN ?_
  refine mwp_cond_split rfl (fun h11 => ?_) (fun h11 => ?_)
  ·
   refine mwp_seq <| qR rfl <| qO rfl <| op_store_mid rfl rfl rfl rfl sz4 rfl rfl (Nat.le_of_ble_eq_true rfl) rfl <| qN <| mwp_ret ?_
   exact .inr ⟨by simpa using h11, rfl, [], by rw [List.append_nil]; rfl⟩
  ·
   refine mwp_skip ?_
   exact .inl ⟨by simpa using h11, rfl, [], by rw [List.append_nil]⟩
 ·
  intro hall
  rw [List.append_assoc]
  have hr : risesF l = true := (rises_iff l).2 fun i hi => hall i (by rw [pairsY_len]; omega)
  refine mwp_seq <| qR rfl <| qO rfl <| op_store' rfl rfl rfl rfl sz4 rfl rfl (Nat.le_of_ble_eq_true rfl) rfl <| qN <| mwp_ret ?_
  exact ret_cell (.inr rfl) Try.results74 rfl rfl ta4 rfl (.refl _) (.bool _) ⟨by rw [hr], rfl⟩
 ·
  intro j y hy hp
  have hjl := (List.getElem?_eq_some_iff.1 hy).1
  rw [pairsY_len] at hjl
  have hr : risesF l = false := by
   cases h : risesF l with
   | false => rfl
   | true => rw [(rises_iff l).1 h j (by omega)] at hp; cases hp
  rw [List.append_assoc]
  exact ret_cell (.inr rfl) Try.results74 rfl rfl ta4 rfl (.refl _) (.bool _) ⟨by rw [hr], rfl⟩
theorem two_iter (l : List (List Tk)) (hlen : l.length ≤ maxLen) (bid l0 : Nat) : IterOk Try.prog 93 [] [.ref bid 0] ((twoY l).map encP) (fun σ => σ.length = l0 ∧ σ[bid]? = some (.cells [.lst none 1 (l.map encC)])) := by
 refine iterOk_of fun id T m hok hm hyt hyf => ?_
 have hml : ((twoY l).map encP).length = (twoY l).length := List.length_map ..
 refine mcalls_body Try.func93 rfl Try.ntmps93 (Nat.le_of_ble_eq_true rfl) ?_
 rw [List.append_nil]
 show mwp _ _ _ _ _ _ _ (([] : MS) ++ T 0)
 refine mwp_seq <| qR rfl <| qO rfl <| op_load_ref rfl rfl (hok _).2 ta26 rfl <| qE rfl rfl Try.underlying26 rfl <| qM rfl rfl rfl <| qN <| mwp_block ?_
 refine mwp_loopK (α := Nat × Nat) [(0, _), (1, _), (6, _)] (fun x => [(7, .int .i64 (x.2 : Int))]) (fun x => T x.1) (fun x => x.1 ≤ m ∧ x.2 ≤ l.length ∧ twoY (l.drop x.2) = (twoY l).drop x.1) (fun x => l.length - x.2) (⟨0, 0⟩) (.keep rfl (.keep rfl (.keep rfl (.nil)))) (.keep rfl (.nil)) (⟨by simp, by simp, rfl⟩) (rfl) ?_
 rintro ⟨j, i⟩ ⟨hj, hi, he⟩
 dsimp only at hj hi he ⊢
 refine mwp_seq <| qR rfl <| qC rfl rfl rfl rfl rfl <| qN <| mwp_seq ?_
 refine mwp_cond_split rfl (fun h8 => ?_) (fun h8 => ?_)
 ·
  have hlt : i < l.length := by rw [List.length_map] at h8; simpa using h8
  obtain ⟨a, hs⟩ : ∃ a, l[i]? = some a := ⟨_, List.getElem?_eq_getElem hlt⟩
  refine mwp_skip <| mwp_seq <| mwp_block <| mwp_seq <| qR rfl <| qM rfl rfl rfl <| qA rfl rfl rfl <| qN <| mwp_seq <| qR rfl <| qM rfl rfl rfl <| qO rfl <| op_arith rfl rfl rfl (wadd (a := i) (b := 1) rfl (by simp only [maxLen] at hlen; omega)) ?_
  refine qA rfl rfl rfl <| qN <| mwp_block ?_
  refine mwp_loopK (α := Nat × Nat) [(0, _), (1, _), (3, _), (6, _), (7, _)] (fun y => [(4, .int .i64 (y.2 : Int))]) (fun y => T y.1) (fun y => y.1 ≤ m ∧ y.2 ≤ l.length ∧ (l.drop y.2).map (fun b => (a, b)) ++ twoY (l.drop (i + 1)) = (twoY l).drop y.1) (fun y => l.length - y.2) (⟨j, i + 1⟩) (.keep rfl (.keep rfl (.keep rfl (.keep rfl (.keep rfl (.nil)))))) (.keep rfl (.nil)) (⟨hj, by dsimp only; omega, by dsimp only; rw [← he, drop_at hs, twoY]⟩) (rfl) ?_
  rintro ⟨j2, k⟩ ⟨hj2, hk, he2⟩
  dsimp only at hj2 hk he2 ⊢
  refine mwp_seq <| mwp_seq <| qR rfl <| qM rfl rfl rfl <| qO rfl <| op_load_ref rfl rfl (hok _).2 ta26 rfl <| qE rfl rfl Try.underlying26 rfl <| qC rfl rfl rfl rfl rfl <| qN ?_
  refine mwp_cond_split rfl (fun h15 => ?_) (fun h15 => ?_)
  ·
   have hlt2 : k < l.length := by rw [List.length_map] at h15; simpa using h15
   obtain ⟨b, hs2⟩ : ∃ a, l[k]? = some a := ⟨_, List.getElem?_eq_getElem hlt2⟩
   have hnx := he2
   rw [drop_at hs2, List.map_cons, List.cons_append] at hnx
   obtain ⟨hy, hnx⟩ := drop_cons_get hnx
   replace hy : ((twoY l).map encP)[j2]? = some [encC a, encC b] := by rw [List.getElem?_map, hy]; rfl
   have hjl := (List.getElem?_eq_some_iff.1 hy).1
   refine mwp_skip <| mwp_seq <| mwp_block <| mwp_seq ?_
   rcases Nat.lt_or_eq_of_le hj2 with hjm | hjm
   ·
    refine mwp_draw [9] [_, T (j2 + 1)] mo (by decide) rfl rfl rfl rfl ?_
    refine dO rfl rfl rfl (op_move rfl rfl ⟨rfl, rfl⟩) <| dOps_op rfl rfl (.cons (op_load_ref rfl rfl (hok _).2 ta26 rfl ⟨rfl, rfl⟩) (.cons (op_load_ref rfl rfl (hok _).2 ta26 rfl ⟨rfl, rfl⟩) (.nil))) <| dOps_op rfl rfl (.cons (op_move rfl rfl ⟨rfl, rfl⟩) (.cons (op_move rfl rfl ⟨rfl, rfl⟩) (.nil))) <| dOps_op rfl rfl (.cons (op_indexAddr rfl Try.underlying26 sz95 (by decide) rfl rfl rfl (get_map hs) ⟨rfl, rfl⟩) (.cons (op_indexAddr rfl Try.underlying26 sz95 (by decide) rfl rfl rfl (get_map hs) ⟨rfl, rfl⟩) (.nil))) ?_
    refine dO rfl rfl rfl (op_load_sptr rfl rfl ta95 rfl ⟨rfl, rfl⟩) <| dOps_op rfl rfl (.cons (op_load_ref rfl rfl (hok _).2 ta26 rfl ⟨rfl, rfl⟩) (.cons (op_load_ref rfl rfl (hok _).2 ta26 rfl ⟨rfl, rfl⟩) (.nil))) <| dOps_op rfl rfl (.cons (op_move rfl rfl ⟨rfl, rfl⟩) (.cons (op_move rfl rfl ⟨rfl, rfl⟩) (.nil))) <| dOps_op rfl rfl (.cons (op_indexAddr rfl Try.underlying26 sz95 (by decide) rfl rfl rfl (get_map hs2) ⟨rfl, rfl⟩) (.cons (op_indexAddr rfl Try.underlying26 sz95 (by decide) rfl rfl rfl (get_map hs2) ⟨rfl, rfl⟩) (.nil))) ?_
    refine dO rfl rfl rfl (op_load_sptr rfl rfl ta95 rfl ⟨rfl, rfl⟩) <| dOps_eff rfl rfl rfl rfl ((hyt j2 _ hjm hy).at0 rfl rfl rfl) <| dO rfl rfl rfl (op_not rfl rfl ⟨rfl, rfl⟩) <| dOps_nil <| mwp_cond_f rfl (rfl) <| mwp_skip <| qR rfl <| qM rfl rfl rfl <| qO rfl <| op_arith rfl rfl rfl rfl <| qA rfl rfl rfl <| qN ?_
    refine ⟨⟨j2 + 1, k + 1⟩, by dsimp only; omega, ⟨by dsimp only; omega, by dsimp only; omega, hnx⟩, rfl, (.keep rfl (.keep rfl (.keep rfl (.keep rfl (.keep rfl (.nil)))))), (.eq rfl (int_succ hlt2 hlen) (.nil))⟩
   ·
    refine mwp_draw [9] [_, T (j2 + 1)] mo (by decide) rfl rfl rfl rfl ?_
    refine dO rfl rfl rfl (op_move rfl rfl ⟨rfl, rfl⟩) <| dOps_op rfl rfl (.cons (op_load_ref rfl rfl (hok _).2 ta26 rfl ⟨rfl, rfl⟩) (.cons (op_load_ref rfl rfl (hok _).2 ta26 rfl ⟨rfl, rfl⟩) (.nil))) <| dOps_op rfl rfl (.cons (op_move rfl rfl ⟨rfl, rfl⟩) (.cons (op_move rfl rfl ⟨rfl, rfl⟩) (.nil))) <| dOps_op rfl rfl (.cons (op_indexAddr rfl Try.underlying26 sz95 (by decide) rfl rfl rfl (get_map hs) ⟨rfl, rfl⟩) (.cons (op_indexAddr rfl Try.underlying26 sz95 (by decide) rfl rfl rfl (get_map hs) ⟨rfl, rfl⟩) (.nil))) ?_
    refine dO rfl rfl rfl (op_load_sptr rfl rfl ta95 rfl ⟨rfl, rfl⟩) <| dOps_op rfl rfl (.cons (op_load_ref rfl rfl (hok _).2 ta26 rfl ⟨rfl, rfl⟩) (.cons (op_load_ref rfl rfl (hok _).2 ta26 rfl ⟨rfl, rfl⟩) (.nil))) <| dOps_op rfl rfl (.cons (op_move rfl rfl ⟨rfl, rfl⟩) (.cons (op_move rfl rfl ⟨rfl, rfl⟩) (.nil))) <| dOps_op rfl rfl (.cons (op_indexAddr rfl Try.underlying26 sz95 (by decide) rfl rfl rfl (get_map hs2) ⟨rfl, rfl⟩) (.cons (op_indexAddr rfl Try.underlying26 sz95 (by decide) rfl rfl rfl (get_map hs2) ⟨rfl, rfl⟩) (.nil))) ?_
    refine dO rfl rfl rfl (op_load_sptr rfl rfl ta95 rfl ⟨rfl, rfl⟩) <| dOps_eff rfl rfl rfl rfl ((hyf j2 _ hjm hy).at0 rfl rfl rfl) <| dO rfl rfl rfl (op_not rfl rfl ⟨rfl, rfl⟩) <| dOps_nil <| mwp_cond_t rfl (rfl) ?_
    refine mwp_facts fun hcv hcl => ?_
    refine mwp_ret ?_
    exact ret_noneT (S' := T (j2 + 1)) (by simp) Try.results93 (by rw [(hok _).1, (hok _).1]; exact Nat.le_refl _) hcl ⟨rfl, by rw [hjm, if_pos (by omega)]⟩
  ·
   have hge2 : k = l.length := by rw [List.length_map] at h15; simp at h15; omega
   refine mwp_exit <| qR rfl <| qO rfl <| op_arith rfl rfl rfl rfl <| qM rfl rfl rfl <| qN ?_
   refine ⟨⟨j2, i + 1⟩, by dsimp only; omega, ⟨by dsimp only; omega, by dsimp only; omega, by rw [hge2, List.drop_length] at he2; exact he2⟩, rfl, (.keep rfl (.keep rfl (.keep rfl (.nil)))), (.eq rfl (int_succ hlt hlen) (.nil))⟩
 ·
  have hge : i = l.length := by rw [List.length_map] at h8; simp at h8; omega
  rw [hge, List.drop_length] at he
  have hdl := drop_nil_len he
  have hjm : j = m := by omega
  refine mwp_facts fun hcv hcl => ?_
  refine mwp_exit ?_
  exact ret_noneT (S' := T j) (by simp) Try.results93 (by rw [(hok _).1, (hok _).1]; exact Nat.le_refl _) hcl ⟨rfl, by rw [hjm, if_neg (by omega)]⟩
theorem two_spec (l : List (List Tk)) (S : MS) : MCalls Try.prog 80 [.lst none 1 (l.map encC)] S fun v σ' => v = .fn (.func 93) [] [.ref S.length 0] ∧ σ' = S ++ [.cells [.lst none 1 (l.map encC)]] := by
 refine mcalls_body Try.func80 rfl Try.ntmps80 (Nat.le_of_ble_eq_true rfl) ?_
 refine mwp_seq <| qR rfl <| qB rfl rfl rfl rfl rfl <| qA rfl rfl rfl <| qN <| mwp_seq <| qR rfl <| qO rfl <| op_makeFunc rfl rfl rfl <| qA rfl rfl rfl <| qN ?_
 refine mwp_facts fun hcv hcl => ?_
 refine mwp_ret ?_
 exact ret_tmpT (.inr rfl) Try.results80 rfl (.refl _) (hcv 2 _ rfl) (by simp) hcl ⟨rfl, rfl⟩
theorem isNaNu_spec (m : Int) (S : MS) : MCalls Try.prog 106 [.int .u64 m] S fun v σ' => v = .bool false ∧ σ' = S := by
 refine mcalls_body Try.func106 rfl Try.ntmps106 (Nat.le_of_ble_eq_true rfl) ?_
 refine mwp_seq <| qR rfl <| qA rfl rfl rfl <| qN <| mwp_seq <| qR rfl <| qM rfl rfl rfl <| qM rfl rfl rfl <| qC rfl rfl rfl rfl rfl <| qA rfl rfl rfl <| qN <| mwp_ret ?_
 exact ret_tmp (.inr rfl) Try.results106 rfl (.of_eq (by simp)) (.bool _) ⟨rfl, rfl⟩
theorem compareu_spec (m n : Int) (S : MS) : MCalls Try.prog 98 [.int .u64 m, .int .u64 n] S fun v σ' => v = .int .i64 (cmpI m n) ∧ σ' = S := by
 refine mcalls_body Try.func98 rfl Try.ntmps98 (Nat.le_of_ble_eq_true rfl) ?_
 refine mwp_seq <| qR rfl <| qA rfl rfl rfl <| qN <| mwp_seq <| qR rfl <| qM rfl rfl rfl ?_
 refine wOps_op rfl (op_call rfl rfl rfl co106 ((isNaNu_spec m _).mono ?_))
 rintro _ _ ⟨rfl, rfl⟩
 refine qA rfl rfl rfl <| qN <| mwp_seq <| qR rfl <| qM rfl rfl rfl ?_
 refine wOps_op rfl (op_call rfl rfl rfl co106 ((isNaNu_spec n _).mono ?_))
 rintro _ _ ⟨rfl, rfl⟩
 refine qA rfl rfl rfl <| qN <| mwp_seq <| mwp_seq <| qR rfl <| qM rfl rfl rfl <| qN <| mwp_cond_f rfl (rfl) <| mwp_skip <| mwp_seq <| mwp_seq <| qR rfl <| qM rfl rfl rfl <| qN <| mwp_cond_f rfl (rfl) <| mwp_skip <| mwp_seq <| mwp_seq <| qR rfl <| qM rfl rfl rfl <| qM rfl rfl rfl <| qC rfl rfl rfl rfl rfl <| qN ?_
 refine mwp_cond_split rfl (fun h16 => ?_) (fun h16 => ?_)
 ·
  refine mwp_seq <| qR rfl <| qA rfl rfl rfl <| qN <| mwp_ret ?_
  exact ret_tmp (.inr rfl) Try.results98 rfl (.of_eq (by unfold cmpI; simp_all <;> omega)) (.int _ _) ⟨rfl, rfl⟩
 ·
  refine mwp_skip <| mwp_seq <| mwp_seq <| qR rfl <| qM rfl rfl rfl <| qM rfl rfl rfl <| qC rfl rfl rfl rfl rfl <| qN ?_
  refine mwp_cond_split rfl (fun h19 => ?_) (fun h19 => ?_)
  ·
   refine mwp_seq <| qR rfl <| qA rfl rfl rfl <| qN <| mwp_ret ?_
   exact ret_tmp (.inr rfl) Try.results98 rfl (.of_eq (by unfold cmpI; simp_all <;> omega)) (.int _ _) ⟨rfl, rfl⟩
  ·
   refine mwp_skip <| mwp_seq <| qR rfl <| qA rfl rfl rfl <| qN <| mwp_ret ?_
   exact ret_tmp (.inr rfl) Try.results98 rfl (.of_eq (by unfold cmpI; simp_all <;> omega)) (.int _ _) ⟨rfl, rfl⟩
theorem cmpOr_spec (l : List Int) (S : MS) : MCalls Try.prog 96 [.lst none 1 (l.map encI)] S fun v σ' => v = .int .i64 (orF l) ∧ σ' = S := by
 refine mcalls_body Try.func96 rfl Try.ntmps96 (Nat.le_of_ble_eq_true rfl) ?_
 refine mwp_len (t := 0) rfl fun hlen => ?_
 rw [List.length_map] at hlen
 refine mwp_seq <| qR rfl <| qA rfl rfl rfl <| qN <| mwp_seq <| qR rfl <| qA rfl rfl rfl <| qN <| mwp_seq <| mwp_seq <| qR rfl <| qM rfl rfl rfl <| qE rfl rfl Try.underlying157 rfl <| qM rfl rfl rfl <| qN <| mwp_block ?_
 refine mwp_loopK (α := Nat) [(3, _), (6, _), (7, _)] (fun i => [(8, .int .i64 (i : Int))]) (fun i => []) (fun i => i ≤ l.length ∧ orF (l.drop i) = orF l) (fun i => l.length - i) (0) (.keep rfl (.keep rfl (.keep rfl (.nil)))) (.keep rfl (.nil)) (⟨by omega, rfl⟩) (rfl) ?_
 rintro i ⟨hi, he⟩
 refine mwp_seq <| qR rfl <| qC rfl rfl rfl rfl rfl <| qN <| mwp_seq ?_
 refine mwp_cond_split rfl (fun h9 => ?_) (fun h9 => ?_)
 ·
  have hlt : i < l.length := by simpa using h9
  obtain ⟨a, hs⟩ : ∃ q_, l[i]? = some q_ := ⟨_, List.getElem?_eq_getElem hlt⟩
  refine mwp_skip <| mwp_seq <| mwp_block <| mwp_seq <| qR rfl <| qO rfl <| op_indexAddr rfl Try.underlying157 sz3 (by decide) rfl rfl rfl (get_map hs) ?_
  refine qO rfl <| op_load_sptr rfl rfl ta3 rfl <| qA rfl rfl rfl <| qN <| mwp_seq <| qR rfl <| qM rfl rfl rfl <| qM rfl rfl rfl <| qC rfl rfl rfl rfl rfl <| qN ?_
  refine mwp_cond_split rfl (fun h14 => ?_) (fun h14 => ?_)
  ·
   refine mwp_seq <| qR rfl <| qM rfl rfl rfl <| qA rfl rfl rfl <| qN <| mwp_ret ?_
   exact ret_tmp (.inr rfl) Try.results96 rfl (.of_eq (by rw [← he, drop_at hs, or_cons, if_pos (by simpa using h14)]; rfl)) (.int _ _) ⟨rfl, rfl⟩
  ·
   refine mwp_skip <| qR rfl <| qO rfl <| op_arith rfl rfl rfl rfl <| qM rfl rfl rfl <| qN ?_
   refine ⟨i + 1, by omega, ⟨by omega, by rw [← he, drop_at hs, or_cons, if_neg (by simpa using h14)]⟩, rfl, (.keep rfl (.keep rfl (.keep rfl (.nil)))), (.eq rfl (int_succ hlt hlen) (.nil))⟩
 ·
  have hge : i = l.length := by simp at h9; omega
  refine mwp_exit <| mwp_seq <| qR rfl <| qM rfl rfl rfl <| qA rfl rfl rfl <| qN <| mwp_ret ?_
  exact ret_tmp (.inr rfl) Try.results96 rfl (.of_eq (by rw [← he, hge, List.drop_length]; rfl)) (.int _ _) ⟨rfl, rfl⟩
theorem byTicks1_spec (x y : Tk) (S : MS) : MCalls Try.prog 95 [encT x, encT y] S fun v σ' => v = .int .i64 (tickC x y) ∧ σ' = S := by
 refine mcalls_body Try.func95 rfl Try.ntmps95 (Nat.le_of_ble_eq_true rfl) ?_
 refine mwp_seq <| qR rfl <| qB rfl rfl rfl rfl rfl <| qB rfl rfl rfl rfl rfl <| qA rfl rfl rfl <| qN <| mwp_seq ?_
 refine mwp_draw [] [_] mo (by decide) rfl rfl rfl rfl ?_
 refine dO rfl rfl rfl (op_fieldAddr_ref rfl rfl fo123_0 ⟨rfl, rfl⟩) <| dO rfl rfl rfl (op_load' rfl rfl rfl ta3 rfl ⟨rfl, rfl⟩) <| dO rfl rfl rfl (op_fieldAddr_ref rfl rfl fo123_0 ⟨rfl, rfl⟩) <| dO rfl rfl rfl (op_load' rfl rfl rfl ta3 rfl ⟨rfl, rfl⟩) <| dOps_op rfl rfl (.cons (op_call rfl rfl rfl co97 (compare_spec x.1 y.1 _)) .nil) <| dO rfl rfl rfl (op_fieldAddr_ref rfl rfl fo123_1 ⟨rfl, rfl⟩) <| dO rfl rfl rfl (op_load' rfl rfl rfl ta22 rfl ⟨rfl, rfl⟩) <| dO rfl rfl rfl (op_fieldAddr_ref rfl rfl fo123_1 ⟨rfl, rfl⟩) <| dO rfl rfl rfl (op_load' rfl rfl rfl ta22 rfl ⟨rfl, rfl⟩) <| dOps_op rfl rfl (.cons (op_call rfl rfl rfl co98 (compareu_spec x.2 y.2 _)) .nil) <| dO rfl rfl rfl (op_buildSlice rfl Try.underlying157 el3 rfl rfl (by decide) (by decide) rfl rfl ⟨rfl, rfl⟩) ?_
 refine dOps_op rfl rfl (.cons (op_call rfl rfl rfl co96 (cmpOr_spec [cmpI x.1 y.1, cmpI x.2 y.2] _)) .nil) <| dO rfl rfl rfl (op_assign rfl rfl ⟨rfl, rfl⟩) <| dOps_nil <| mwp_ret ?_
 exact ret_tmp (.inr rfl) Try.results95 rfl (.of_eq (by rw [or_two]; rfl)) (.int _ _) ⟨rfl, rfl⟩
theorem cmpFuncT_spec (a b : List Tk) (S : MS) : MCalls Try.prog 94 [.lst none 2 (a.map encT), .lst none 2 (b.map encT), .fn (.func 95) [] []] S fun v σ' => v = .int .i64 (byTicksF a b) ∧ σ' = S := by
 refine mcalls_body Try.func94 rfl Try.ntmps94 (Nat.le_of_ble_eq_true rfl) ?_
 refine mwp_len (t := 0) rfl fun hlen => ?_
 rw [List.length_map] at hlen
 refine mwp_seq <| qR rfl <| qA rfl rfl rfl <| qN <| mwp_seq <| mwp_seq <| qR rfl <| qM rfl rfl rfl <| qE rfl rfl Try.underlying95 rfl <| qM rfl rfl rfl <| qN <| mwp_block ?_
 refine mwp_loopKJ (α := Nat) [(0, _), (1, _), (2, _), (11, _), (12, _)] (fun i => [(13, .int .i64 (i : Int))]) (fun i => []) (fun i => i ≤ a.length ∧ i ≤ b.length ∧ byTicksF (a.drop i) (b.drop i) = byTicksF a b) (fun i => a.length - i) (0) (Nat.le_refl _) (.keep rfl (.keep rfl (.keep rfl (.keep rfl (.keep rfl (.nil)))))) (.keep rfl (.nil)) (⟨by omega, by omega, rfl⟩) (rfl) ?_
 rintro i ⟨hi, hib, he⟩
 refine mwp_seq <| qR rfl <| qC rfl rfl rfl rfl rfl <| qN <| mwp_seq ?_
 refine mwp_cond_split rfl (fun h14 => ?_) (fun h14 => ?_)
 ·
  have hlt : i < a.length := by simpa using h14
  obtain ⟨x, hs⟩ : ∃ q_, a[i]? = some q_ := ⟨_, List.getElem?_eq_getElem hlt⟩
  refine mwp_skip <| mwp_seq <| mwp_block <| mwp_seq <| qR rfl <| qM rfl rfl rfl <| qO rfl <| op_indexAddr rfl Try.underlying95 sz123 (by decide) rfl rfl rfl (get_map hs) ?_
  refine qO rfl <| op_load_sptr rfl rfl ta123 rfl <| qO rfl <| op_alloc' rfl zm123 rfl rfl <| qA rfl rfl rfl <| qO rfl <| op_store' rfl rfl rfl rfl sz123 rfl rfl (Nat.le_of_ble_eq_true rfl) rfl <| qN <| mwp_seq <| mwp_seq <| qR rfl <| qM rfl rfl rfl <| qM rfl rfl rfl <| qE rfl rfl Try.underlying95 rfl <| qC rfl rfl rfl rfl rfl <| qN ?_
  refine mwp_cond_split rfl (fun h21 => ?_) (fun h21 => ?_)
  ·
   have hbe : b.drop i = [] := by rw [List.length_map] at h21; simp at h21; exact List.drop_eq_nil_of_le (by omega)
   refine mwp_seq <| qR rfl <| qA rfl rfl rfl <| qN <| mwp_ret ?_
   exact ret_tmp (.inr rfl) Try.results94 rfl (.of_eq (by rw [← he, hbe, drop_at hs]; rfl)) (.int _ _) ⟨rfl, rfl⟩
  ·
   have hltb : i < b.length := by rw [List.length_map] at h21; simp at h21; omega
   obtain ⟨y, hs2⟩ : ∃ s, b[i]? = some s := ⟨_, List.getElem?_eq_getElem hltb⟩
   refine mwp_skip <| mwp_seq <| qR rfl <| qM rfl rfl rfl <| qM rfl rfl rfl <| qO rfl <| op_indexAddr rfl Try.underlying95 sz123 (by decide) rfl rfl rfl (get_map hs2) ?_
   refine qO rfl <| op_load_sptr rfl rfl ta123 rfl <| qO rfl <| op_alloc' rfl zm123 rfl rfl <| qO rfl <| op_store' rfl rfl rfl rfl sz123 rfl rfl (Nat.le_of_ble_eq_true rfl) rfl <| qN <| mwp_seq <| qR rfl <| qM rfl rfl rfl <| qL rfl rfl rfl rfl ta123 rfl <| qL rfl rfl rfl rfl ta123 rfl ?_
   refine wOps_op rfl (op_call rfl rfl rfl co95 ((byTicks1_spec x y _).mono ?_))
   rintro _ _ ⟨rfl, rfl⟩
   refine qA rfl rfl rfl <| qN <| mwp_seq <| qR rfl <| qM rfl rfl rfl <| qC rfl rfl rfl rfl rfl <| qN ?_
   refine mwp_cond_split rfl (fun h31 => ?_) (fun h31 => ?_)
   ·
    refine mwp_seq <| qR rfl <| qM rfl rfl rfl <| qA rfl rfl rfl <| qN <| mwp_ret ?_
    exact ret_tmp (.inr rfl) Try.results94 rfl (.of_eq (by rw [← he, ticks_at hs hs2, if_pos (by simpa using h31)])) (.int _ _) ⟨rfl, rfl⟩
   ·
    refine mwp_skip <| qR rfl <| qO rfl <| op_arith rfl rfl rfl rfl <| qM rfl rfl rfl <| qN ?_
    refine ⟨i + 1, _, by omega, ⟨by omega, by omega, by rw [← he, ticks_at hs hs2, if_neg (by simpa using h31)]⟩, rfl, .nil, (.old rfl rfl (.old rfl rfl (.old rfl rfl (.old rfl rfl (.old rfl rfl (.nil)))))), (.new' rfl (int_succ hlt hlen) (.int _ _) (.nil))⟩
 ·
  have hge : i = a.length := by simp at h14; omega
  refine mwp_exit <| mwp_seq <| mwp_seq <| qR rfl <| qM rfl rfl rfl <| qE rfl rfl Try.underlying95 rfl <| qM rfl rfl rfl <| qE rfl rfl Try.underlying95 rfl <| qC rfl rfl rfl rfl rfl <| qN ?_
  refine mwp_cond_split rfl (fun h38 => ?_) (fun h38 => ?_)
  ·
   refine mwp_seq <| qR rfl <| qA rfl rfl rfl <| qN <| mwp_ret ?_
   exact ret_tmp (.inr rfl) Try.results94 rfl (.of_eq (by simp at h38; rw [← he, hge, List.drop_length, drop_at (List.getElem?_eq_getElem (by omega : a.length < b.length))]; rfl)) (.int _ _) ⟨rfl, rfl⟩
  ·
   refine mwp_skip <| mwp_seq <| qR rfl <| qA rfl rfl rfl <| qN <| mwp_ret ?_
   exact ret_tmp (.inr rfl) Try.results94 rfl (.of_eq (by simp at h38; rw [← he, hge, List.drop_length, List.drop_eq_nil_of_le (by omega : b.length ≤ a.length)]; rfl)) (.int _ _) ⟨rfl, rfl⟩
theorem byTicks_spec (a b : List Tk) (S : MS) : MCalls Try.prog 81 [.lst none 2 (a.map encT), .lst none 2 (b.map encT)] S fun v σ' => v = .int .i64 (byTicksF a b) ∧ σ' = S := by
 refine mcalls_body Try.func81 rfl Try.ntmps81 (Nat.le_of_ble_eq_true rfl) ?_
 refine mwp_seq <| qR rfl <| qA rfl rfl rfl <| qN <| mwp_seq <| qR rfl <| qM rfl rfl rfl <| qM rfl rfl rfl ?_
 refine wOps_op rfl (op_call rfl rfl rfl co94 ((cmpFuncT_spec a b _).mono ?_))
 rintro _ _ ⟨rfl, rfl⟩
 refine qA rfl rfl rfl <| qN <| mwp_ret ?_
 exact ret_tmp (.inr rfl) Try.results81 rfl (.of_eq (rfl)) (.int _ _) ⟨rfl, rfl⟩
theorem isCause_spec (l : List (List Tk)) (S : MS) : MCalls Try.prog 69 [.lst none 1 (l.map encC)] S fun v σ' => v = .bool (isCauseF l) ∧ σ' = S := by
 refine mcalls_body Try.func69 rfl Try.ntmps69 (Nat.le_of_ble_eq_true rfl) ?_
 refine mwp_len (t := 0) rfl fun hlen => ?_
 rw [List.length_map] at hlen
 refine mwp_seq <| qR rfl <| qO rfl <| op_alloc' rfl zm4 rfl rfl <| qN <| mwp_seq <| mwp_seq <| qR rfl <| qM rfl rfl rfl <| qE rfl rfl Try.underlying26 rfl <| qM rfl rfl rfl <| qN <| mwp_block ?_
 refine mwp_loopK (α := Nat) [(0, _), (2, _), (7, _), (8, _)] (fun i => [(9, .int .i64 (i : Int))]) (fun i => [.cells [.bool false]]) (fun i => i ≤ l.length ∧ (l.take i).all isClockF = true) (fun i => l.length - i) (0) (.keep rfl (.keep rfl (.keep rfl (.keep rfl (.nil))))) (.keep rfl (.nil)) (⟨by omega, rfl⟩) (rfl) ?_
 rintro i ⟨hi, hall⟩
 refine mwp_seq <| qR rfl <| qC rfl rfl rfl rfl rfl <| qN <| mwp_seq ?_
 refine mwp_cond_split rfl (fun h10 => ?_) (fun h10 => ?_)
 ·
  have hlt : i < l.length := by simpa using h10
  obtain ⟨c, hs⟩ : ∃ q_, l[i]? = some q_ := ⟨_, List.getElem?_eq_getElem hlt⟩
  refine mwp_skip <| mwp_seq <| mwp_block <| mwp_seq <| qR rfl <| qO rfl <| op_indexAddr rfl Try.underlying26 sz95 (by decide) rfl rfl rfl (get_map hs) ?_
  refine qO rfl <| op_load_sptr rfl rfl ta95 rfl <| qA rfl rfl rfl <| qN <| mwp_seq <| qR rfl <| qM rfl rfl rfl ?_
  refine wOps_op rfl (op_call rfl rfl rfl co68 ((clkIs_spec c _).mono ?_))
  rintro _ _ ⟨rfl, rfl⟩
  refine qO rfl <| op_not rfl rfl <| qN ?_
  refine mwp_cond_split rfl (fun h15 => ?_) (fun h15 => ?_)
  ·
   refine mwp_seq <| qR rfl <| qO rfl <| op_store' rfl rfl rfl rfl sz4 rfl rfl (Nat.le_of_ble_eq_true rfl) rfl <| qN <| mwp_ret ?_
   exact ret_cell (.inr rfl) Try.results69 rfl rfl ta4 rfl (.refl _) (.bool _) ⟨by rw [isCauseF, List.all_eq_false.2 ⟨c, List.mem_of_getElem? hs, by simpa using h15⟩]; rfl, rfl⟩
  ·
   refine mwp_skip <| qR rfl <| qO rfl <| op_arith rfl rfl rfl rfl <| qM rfl rfl rfl <| qN ?_
   refine ⟨i + 1, by omega, ⟨by omega, ?_⟩, rfl, (.keep rfl (.keep rfl (.keep rfl (.keep rfl (.nil))))), (.eq rfl (int_succ hlt hlen) (.nil))⟩
   rw [List.take_add_one, hs, List.all_append, hall]
   simpa using h15
 ·
  have hge : i = l.length := by simp at h10; omega
  rw [hge, List.take_length] at hall
  have hcl := hall
  refine mwp_exit <| mwp_seq <| mwp_seq <| qR rfl <| qM rfl rfl rfl ?_
  refine wOps_op rfl (op_call rfl rfl rfl co80 ((two_spec l _).mono ?_))
  rintro _ _ ⟨rfl, rfl⟩
  rw [List.append_assoc]
  refine qN <| mwp_block ?_
  refine mwp_rangeB (ok := fun σ => σ.length = S.length + 3 ∧ σ[(S ++ [MObj.cells [.bool false]]).length]? = some (.cells [.lst none 1 (l.map encC)])) (ys := (twoY l).map encP) .ret (.inl rfl) (fun j => (match (twoY l)[j]? with | some p => pairF p.1 p.2 | none => true)) (fun j => ([.cells [.bool false], .cells [.lst none 1 (l.map encC)]] : MS)) (fun j => ([.cells [.bool false], .cells [.lst none 1 (l.map encC)]] : MS)) (fun j => rfl) (fun j => rfl) rfl (fun j o ho n hn => by simp at ho; rcases ho with rfl | rfl <;> intro x hx <;> (simp at hx; subst hx; first | exact .bool _ | exact cl_texts _ _ | exact cl_clocks _ _)) (fun j o ho n hn => by simp at ho; rcases ho with rfl | rfl <;> intro x hx <;> (simp at hx; subst hx; first | exact .bool _ | exact cl_texts _ _ | exact cl_clocks _ _)) rfl co93 rfl (by simp) ((two_iter l hlen _ _).weak fun σ h => h.1) (fun j => ⟨by simp, get_box⟩) (fun j s q => ⟨by simp, get_box⟩) rfl (fun y hy => by obtain ⟨i, _, rfl⟩ := List.mem_map.1 hy; rfl) ?_ ?_ ?_
  ·
   intro j y hy hbef L'
   rw [List.getElem?_map] at hy
   obtain ⟨⟨a, b⟩, hp, rfl⟩ := Option.map_eq_some_iff.1 hy
   rw [hp]
   obtain ⟨ha, hb⟩ := two_mem (List.mem_of_getElem? hp)
   have la := clock_len (List.all_eq_true.1 hcl a ha)
   have lb := clock_len (List.all_eq_true.1 hcl b hb)
   refine mwp_seq <| qR rfl <| qA rfl rfl rfl <| qN <| qR rfl <| qA rfl rfl rfl <| qN ?_
   refine ⟨rfl, [], by rw [List.append_nil], ?_⟩
   rw [List.append_nil]
   refine mwp_block <| mwp_seq <| qR rfl <| qM rfl rfl rfl <| qM rfl rfl rfl ?_
   refine wOps_op rfl (op_call rfl rfl rfl co81 ((byTicks_spec a b _).mono ?_))
   rintro _ _ ⟨rfl, rfl⟩
   refine qC rfl rfl rfl rfl rfl <| qM rfl rfl rfl ?_
   refine wOps_case (fun h25 => ?_) (fun h25 => ?_)
   ·
    refine qS rfl <| qS rfl <| qS rfl <| qS rfl <| qP rfl rfl rfl rfl <| qN <| mwp_cond_t rfl (rfl) <| mwp_seq <| qR rfl <| qO rfl <| op_store_mid rfl rfl rfl rfl sz4 rfl rfl (Nat.le_of_ble_eq_true rfl) rfl <| qN <| mwp_ret ?_
    exact .inr ⟨by simp only [pairF]; simp_all <;> (intros; omega), rfl, [], by rw [List.append_nil]; rfl⟩
   ·
    refine qM rfl rfl rfl <| qM rfl rfl rfl ?_
    refine wOps_op rfl (op_call rfl rfl rfl co82 ((clkCmp_spec a b (by omega) _).mono ?_))
    rintro _ _ ⟨rfl, rfl⟩
    refine qC rfl rfl rfl rfl rfl <| qP rfl rfl rfl rfl <| qN ?_
    refine mwp_cond_split rfl (fun h30 => ?_) (fun h30 => ?_)
    ·
     refine mwp_seq <| qR rfl <| qO rfl <| op_store_mid rfl rfl rfl rfl sz4 rfl rfl (Nat.le_of_ble_eq_true rfl) rfl <| qN <| mwp_ret ?_
     exact .inr ⟨by simp only [pairF]; simp_all <;> (intros; omega), rfl, [], by rw [List.append_nil]; rfl⟩
    ·
     refine mwp_skip ?_
     exact .inl ⟨by simp only [pairF]; simp_all, rfl, [], by rw [List.append_nil]⟩
  ·
   intro hall2
   rw [List.append_assoc]
   have hr : isCauseF l = true := by
    rw [isCauseF, hcl, Bool.true_and, two_iff]
    intro p hp
    obtain ⟨j, hj, rfl⟩ := List.mem_iff_getElem.1 hp
    have := hall2 j (by rw [List.length_map]; exact hj)
    rw [List.getElem?_eq_getElem hj] at this
    exact this
   refine mwp_seq <| qR rfl <| qO rfl <| op_store' rfl rfl rfl rfl sz4 rfl rfl (Nat.le_of_ble_eq_true rfl) rfl <| qN <| mwp_ret ?_
   exact ret_cell (.inr rfl) Try.results69 rfl rfl ta4 rfl (.refl _) (.bool _) ⟨by rw [hr], rfl⟩
  ·
   intro j y hy hp
   rw [List.getElem?_map] at hy
   obtain ⟨⟨a, b⟩, hq, rfl⟩ := Option.map_eq_some_iff.1 hy
   rw [hq] at hp
   replace hp : pairF a b = false := hp
   have hr : isCauseF l = false := by
    rw [isCauseF, hcl, Bool.true_and]
    cases h : pairsF l with
    | false => rfl
    | true =>
     have : pairF a b = true := (two_iff l).1 h _ (List.mem_of_getElem? hq)
     rw [this] at hp
     cases hp
   rw [List.append_assoc]
   exact ret_cell (.inr rfl) Try.results69 rfl rfl ta4 rfl (.refl _) (.bool _) ⟨by rw [hr], rfl⟩
end Go.Proofs.Ythkikhggmbiffaa
end
section
set_option linter.unusedVariables false
set_option linter.unusedSimpArgs false
set_option maxRecDepth 20000
set_option maxHeartbeats 400000
namespace Go.Proofs.Ythkikhggmbiffaa
open Go Go.MV
theorem one_of {α : Type} {s : List α} (h : s.length = 1) : ∃ t, s = [t] := by
 match s, h with
 | [t], _ => exact ⟨t, rfl⟩
theorem two_of' {α : Type} {s : List α} (h : s.length = 2) : ∃ t u, s = [t, u] := by
 match s, h with
 | [t, u], _ => exact ⟨t, u, rfl⟩
theorem last_no {n m : Int} {s : List Bs} (h : ¬ s = []) (h1 : ¬ s.length = 1) : isLastF n m s = false := by
 match s, h, h1 with
 | [], h, _ => exact absurd rfl h
 | [t], _, h => exact absurd rfl h
 | _ :: _ :: _, _, _ => rfl
theorem one_ins {k : Int} {ins : List Sch} (h : partsF k = (ins.length : Int)) (hk : partsF k = 1) : ∃ t, ins = [t] := one_of (by omega)
theorem isB_mk {k : Int} {ins : List Sch} {fs : List (Val → Bool)} {n m : Int} {s : List Bs} {c : List (List Tk)} {w : List Val} : isB k ins fs (.mk n m s c w) = (bareF k (.mk n m s c w) && decide (w.length ≤ 40) && decide (c.length ≤ 40) &&
 (if k = 1 then true else if k = 2 then decide (n ≤ 1) else if k = 3 then isRowF s
  else if k = 4 then isRowF s && decide (s.length = w.length) && w.all (fun x => fs.headD (fun _ => false) x && !noneF (ins.headD default) x)
  else if k = 5 then (match w with | [x, y] => fs.headD (fun _ => false) x && fs.tail.headD (fun _ => false) y | _ => false)
  else if k = 6 then isLastF n m s
  else if k = 7 then (match c with | [] => true | [c] => decide (0 < c.length) && isClockF c | _ => false)
  else decide (c.length = w.length) && isCauseF c && w.all (fs.headD (fun _ => false)))) := rfl
theorem isVF_mk {ins : List Sch} {n m : Int} {s : List Bs} {c : List (List Tk)} {w : List Val} (k : Int) : isVF (.mk k ins) (.mk n m s c w) = (bareF k (.mk n m s c w) && decide (w.length ≤ 40) && decide (c.length ≤ 40) &&
 (if k = 1 then true else if k = 2 then decide (n ≤ 1) else if k = 3 then isRowF s
  else if k = 4 then isRowF s && decide (s.length = w.length) && w.all (fun x => (isVL ins).headD (fun _ => false) x && !noneF (ins.headD default) x)
  else if k = 5 then (match w with | [x, y] => (isVL ins).headD (fun _ => false) x && (isVL ins).tail.headD (fun _ => false) y | _ => false)
  else if k = 6 then isLastF n m s
  else if k = 7 then (match c with | [] => true | [c] => decide (0 < c.length) && isClockF c | _ => false)
  else decide (c.length = w.length) && isCauseF c && w.all ((isVL ins).headD (fun _ => false)))) := by rw [isVF, isB_mk]
theorem match2_no {f g : Val → Bool} {w : List Val} : w.length ≠ 2 → (match w with | [x, y] => f x && g y | _ => false) = false := by
 intro h
 match w, h with
 | [], _ => rfl
 | [_], _ => rfl
 | [_, _], h => exact absurd rfl h
 | _ :: _ :: _ :: _, _ => rfl
theorem match1_no {c : List (List Tk)} : ¬ c = [] → c.length ≠ 1 → (match c with | [] => true | [c] => decide (0 < c.length) && isClockF c | _ => false) = false := by
 intro h0 h
 match c, h0, h with
 | [], h, _ => exact absurd rfl h
 | [_], _, h => exact absurd rfl h
 | _ :: _ :: _, _, _ => rfl
theorem k8_of {k : Int} {n : Nat} (h : partsF k = (n : Int)) : k = 1 ∨ k = 2 ∨ k = 3 ∨ k = 4 ∨ k = 5 ∨ k = 6 ∨ k = 7 ∨ k = 8 := by
 unfold partsF at h
 split at h
 ·omega
 ·split at h
  ·omega
  ·split at h <;> omega
theorem short_any (l : List Bs) : (!(l.any fun s => decide (16 < s.length))) = shortF l := by
 unfold shortF
 rw [Bool.eq_iff_iff]
 simp
theorem any_all {l : List Val} {f g : Val → Bool} : (!(l.any fun x => !f x || g x)) = l.all fun x => f x && !g x := by
 rw [Bool.eq_iff_iff]
 simp
theorem any_all' {l : List Val} {f : Val → Bool} : (!(l.any fun x => !f x)) = l.all f := by
 rw [Bool.eq_iff_iff]
 simp
theorem xIndex_spec (S : MS) (l : List Bs) (p : Bs → Bool) (kf : FuncId) (first caps : List MV) (hco : CallOk Try.prog kf) (hp : ∀ x ∈ l, ∀ X : MS, MCalls Try.prog kf (first ++ [encX x] ++ caps) (S ++ X) fun v σ' => v = .bool (p x) ∧ σ' = S ++ X) : MCalls Try.prog 87 [.lst none 1 (l.map encX), .fn (.func kf) first caps] S fun v σ' => v = .int .i64 (findGo p 0 l) ∧ σ' = S := by
 refine mcalls_body Try.func87 rfl Try.ntmps87 (Nat.le_of_ble_eq_true rfl) ?_
 refine mwp_len (t := 0) rfl fun hlen => ?_
 rw [List.length_map] at hlen
 refine mwp_seq <| qR rfl <| qA rfl rfl rfl <| qN <| mwp_seq <| mwp_seq <| qR rfl <| qM rfl rfl rfl <| qE rfl rfl Try.underlying25 rfl <| qM rfl rfl rfl <| qN <| mwp_block ?_
 refine mwp_loopK (α := Nat) [(0, _), (1, _), (7, _)] (fun i => [(8, .int .i64 (i : Int))]) (fun i => []) (fun i => i ≤ l.length ∧ findGo p i (l.drop i) = findGo p 0 l) (fun i => l.length - i) (0) (.keep rfl (.keep rfl (.keep rfl (.nil)))) (.keep rfl (.nil)) (⟨by omega, rfl⟩) (rfl) ?_
 rintro i ⟨hi, he⟩
 refine mwp_seq <| qR rfl <| qC rfl rfl rfl rfl rfl <| qN <| mwp_seq ?_
 refine mwp_cond_split rfl (fun h9 => ?_) (fun h9 => ?_)
 ·
  rw [List.length_map] at h9
  have hlt : i < l.length := by simpa using h9
  obtain ⟨x, hs⟩ : ∃ x, l[i]? = some x := ⟨_, List.getElem?_eq_getElem hlt⟩
  refine mwp_skip <| mwp_seq <| mwp_block <| mwp_seq <| qR rfl <| qM rfl rfl rfl <| qA rfl rfl rfl <| qN <| mwp_seq <| qR rfl <| qM rfl rfl rfl <| qM rfl rfl rfl <| qM rfl rfl rfl <| qO rfl <| op_indexAddr rfl Try.underlying25 sz9 (by decide) rfl rfl rfl (get_map hs) ?_
  refine qO rfl <| op_load_sptr rfl rfl ta9 rfl ?_
  refine wOps_op rfl (op_call rfl rfl rfl hco ((hp _ (List.mem_of_getElem? hs) _).mono ?_))
  rintro _ _ ⟨rfl, rfl⟩
  refine qN ?_
  refine mwp_cond_split rfl (fun h16 => ?_) (fun h16 => ?_)
  ·
   refine mwp_seq <| qR rfl <| qM rfl rfl rfl <| qA rfl rfl rfl <| qN <| mwp_ret ?_
   exact ret_tmp (.inr rfl) Try.results87 rfl (.of_eq (by rw [← he, find_at hs, h16]; rfl)) (.int _ _) ⟨rfl, rfl⟩
  ·
   refine mwp_skip <| qR rfl <| qO rfl <| op_arith rfl rfl rfl rfl <| qM rfl rfl rfl <| qN ?_
   refine ⟨i + 1, by omega, ⟨by omega, by rw [← he, find_at hs, h16]; rfl⟩, rfl, (.keep rfl (.keep rfl (.keep rfl (.nil)))), (.eq rfl (int_succ hlt hlen) (.nil))⟩
 ·
  rw [List.length_map] at h9
  have hge : i = l.length := by simp at h9; omega
  refine mwp_exit <| mwp_seq <| qR rfl <| qA rfl rfl rfl <| qN <| mwp_ret ?_
  exact ret_tmp (.inr rfl) Try.results87 rfl (.of_eq (by rw [← he, hge, List.drop_length]; rfl)) (.int _ _) ⟨rfl, rfl⟩
theorem xContains_spec (S : MS) (l : List Bs) (p : Bs → Bool) (kf : FuncId) (first caps : List MV) (hco : CallOk Try.prog kf) (hp : ∀ x ∈ l, ∀ X : MS, MCalls Try.prog kf (first ++ [encX x] ++ caps) (S ++ X) fun v σ' => v = .bool (p x) ∧ σ' = S ++ X) : MCalls Try.prog 75 [.lst none 1 (l.map encX), .fn (.func kf) first caps] S fun v σ' => v = .bool (l.any p) ∧ σ' = S := by
 refine mcalls_body Try.func75 rfl Try.ntmps75 (Nat.le_of_ble_eq_true rfl) ?_
 refine mwp_seq <| qR rfl <| qA rfl rfl rfl <| qN <| mwp_seq <| qR rfl <| qM rfl rfl rfl <| qM rfl rfl rfl ?_
 refine wOps_op rfl (op_call rfl rfl rfl co87 ((xIndex_spec (S ++ []) l p kf first caps hco (by rw [List.append_nil]; exact hp)).mono ?_))
 rintro _ _ ⟨rfl, rfl⟩
 refine qC rfl rfl rfl rfl rfl <| qA rfl rfl rfl <| qN <| mwp_ret ?_
 exact ret_tmp (.inr rfl) Try.results75 rfl (.of_eq (by rw [find_any p 0 l])) (.bool _) ⟨rfl, rfl⟩
theorem vIndex_spec (S : MS) (l : List Val) (p : Val → Bool) (kf : FuncId) (first caps : List MV) (hco : CallOk Try.prog kf) (hp : ∀ x ∈ l, ∀ X : MS, MCalls Try.prog kf (first ++ [encV x] ++ caps) (S ++ X) fun v σ' => v = .bool (p x) ∧ σ' = S ++ X) : MCalls Try.prog 77 [.lst none 5 (encVs l), .fn (.func kf) first caps] S fun v σ' => v = .int .i64 (findGo p 0 l) ∧ σ' = S := by
 refine mcalls_body Try.func77 rfl Try.ntmps77 (Nat.le_of_ble_eq_true rfl) ?_
 refine mwp_len (t := 0) rfl fun hlen => ?_
 rw [encVs_length] at hlen
 refine mwp_seq <| qR rfl <| qA rfl rfl rfl <| qN <| mwp_seq <| mwp_seq <| qR rfl <| qM rfl rfl rfl <| qE rfl rfl Try.underlying27 rfl <| qM rfl rfl rfl <| qN <| mwp_block ?_
 refine mwp_loopK (α := Nat) [(0, _), (1, _), (7, _)] (fun i => [(8, .int .i64 (i : Int))]) (fun i => []) (fun i => i ≤ l.length ∧ findGo p i (l.drop i) = findGo p 0 l) (fun i => l.length - i) (0) (.keep rfl (.keep rfl (.keep rfl (.nil)))) (.keep rfl (.nil)) (⟨by omega, rfl⟩) (rfl) ?_
 rintro i ⟨hi, he⟩
 refine mwp_seq <| qR rfl <| qC rfl rfl rfl rfl rfl <| qN <| mwp_seq ?_
 refine mwp_cond_split rfl (fun h9 => ?_) (fun h9 => ?_)
 ·
  rw [encVs_length] at h9
  have hlt : i < l.length := by simpa using h9
  obtain ⟨x, hs⟩ : ∃ x, l[i]? = some x := ⟨_, List.getElem?_eq_getElem hlt⟩
  obtain ⟨n1, m1, s1, c1, w1⟩ := x
  refine mwp_skip <| mwp_seq <| mwp_block <| mwp_seq <| qR rfl <| qM rfl rfl rfl <| qA rfl rfl rfl <| qN <| mwp_seq <| qR rfl <| qM rfl rfl rfl <| qM rfl rfl rfl <| qM rfl rfl rfl <| qO rfl <| op_indexAddr rfl Try.underlying27 sz29 (by decide) rfl rfl rfl (encVs_get hs) ?_
  refine qO rfl <| op_load_sptr rfl rfl ta29 rfl ?_
  refine wOps_op rfl (op_call rfl rfl rfl hco ((hp _ (List.mem_of_getElem? hs) _).mono ?_))
  rintro _ _ ⟨rfl, rfl⟩
  refine qN ?_
  refine mwp_cond_split rfl (fun h16 => ?_) (fun h16 => ?_)
  ·
   refine mwp_seq <| qR rfl <| qM rfl rfl rfl <| qA rfl rfl rfl <| qN <| mwp_ret ?_
   exact ret_tmp (.inr rfl) Try.results77 rfl (.of_eq (by rw [← he, find_at hs, h16]; rfl)) (.int _ _) ⟨rfl, rfl⟩
  ·
   refine mwp_skip <| qR rfl <| qO rfl <| op_arith rfl rfl rfl rfl <| qM rfl rfl rfl <| qN ?_
   refine ⟨i + 1, by omega, ⟨by omega, by rw [← he, find_at hs, h16]; rfl⟩, rfl, (.keep rfl (.keep rfl (.keep rfl (.nil)))), (.eq rfl (int_succ hlt hlen) (.nil))⟩
 ·
  rw [encVs_length] at h9
  have hge : i = l.length := by simp at h9; omega
  refine mwp_exit <| mwp_seq <| qR rfl <| qA rfl rfl rfl <| qN <| mwp_ret ?_
  exact ret_tmp (.inr rfl) Try.results77 rfl (.of_eq (by rw [← he, hge, List.drop_length]; rfl)) (.int _ _) ⟨rfl, rfl⟩
theorem vContains_spec (S : MS) (l : List Val) (p : Val → Bool) (kf : FuncId) (first caps : List MV) (hco : CallOk Try.prog kf) (hp : ∀ x ∈ l, ∀ X : MS, MCalls Try.prog kf (first ++ [encV x] ++ caps) (S ++ X) fun v σ' => v = .bool (p x) ∧ σ' = S ++ X) : MCalls Try.prog 64 [.lst none 5 (encVs l), .fn (.func kf) first caps] S fun v σ' => v = .bool (l.any p) ∧ σ' = S := by
 refine mcalls_body Try.func64 rfl Try.ntmps64 (Nat.le_of_ble_eq_true rfl) ?_
 refine mwp_seq <| qR rfl <| qA rfl rfl rfl <| qN <| mwp_seq <| qR rfl <| qM rfl rfl rfl <| qM rfl rfl rfl ?_
 refine wOps_op rfl (op_call rfl rfl rfl co77 ((vIndex_spec (S ++ []) l p kf first caps hco (by rw [List.append_nil]; exact hp)).mono ?_))
 rintro _ _ ⟨rfl, rfl⟩
 refine qC rfl rfl rfl rfl rfl <| qA rfl rfl rfl <| qN <| mwp_ret ?_
 exact ret_tmp (.inr rfl) Try.results64 rfl (.of_eq (by rw [find_any p 0 l])) (.bool _) ⟨rfl, rfl⟩
theorem isRow1_spec (s : Bs) (S : MS) : MCalls Try.prog 76 [.str (bs s)] S fun v σ' => v = .bool (decide (16 < s.length)) ∧ σ' = S := by
 refine mcalls_body Try.func76 rfl Try.ntmps76 (Nat.le_of_ble_eq_true rfl) ?_
 refine mwp_seq <| qR rfl <| qA rfl rfl rfl <| qN <| mwp_seq <| qR rfl <| qM rfl rfl rfl <| qO rfl <| op_len_bs rfl Try.underlying9 rfl <| qC rfl rfl rfl rfl rfl <| qA rfl rfl rfl <| qN <| mwp_ret ?_
 exact ret_tmp (.inr rfl) Try.results76 rfl (.of_eq (by congr 1; rw [Bool.eq_iff_iff]; simp; omega)) (.bool _) ⟨rfl, rfl⟩
theorem isRow_spec (l : List Bs) (S : MS) : MCalls Try.prog 63 [.lst none 1 (l.map encX)] S fun v σ' => v = .bool (isRowF l) ∧ σ' = S := by
 refine mcalls_body Try.func63 rfl Try.ntmps63 (Nat.le_of_ble_eq_true rfl) ?_
 refine mwp_seq <| qR rfl <| qA rfl rfl rfl <| qN <| mwp_seq <| qR rfl <| qM rfl rfl rfl <| qE rfl rfl Try.underlying25 rfl <| qC rfl rfl rfl rfl rfl <| qM rfl rfl rfl ?_
 refine wOps_case (fun h6 => ?_) (fun h6 => ?_)
 ·
  refine qM rfl rfl rfl ?_
  refine wOps_op rfl (op_call rfl rfl rfl co74 ((rowsIs_spec l _).mono ?_))
  rintro _ _ ⟨rfl, rfl⟩
  refine qP rfl rfl rfl rfl <| qM rfl rfl rfl ?_
  refine wOps_case (fun h10 => ?_) (fun h10 => ?_)
  ·
   refine qM rfl rfl rfl ?_
   refine wOps_op rfl (op_call rfl rfl rfl co75 ((xContains_spec _ l (fun s => decide (16 < s.length)) _ [] [] co76 (fun x _ X => isRow1_spec x _)).mono ?_))
   rintro _ _ ⟨rfl, rfl⟩
   refine qO rfl <| op_not rfl rfl <| qP rfl rfl rfl rfl <| qA rfl rfl rfl <| qN <| mwp_ret ?_
   exact ret_tmp (.inr rfl) Try.results63 rfl (.of_eq (by congr 1; unfold isRowF; rw [← short_any, Bool.eq_iff_iff]; simp_all <;> omega)) (.bool _) ⟨rfl, rfl⟩
  ·
   refine qS rfl <| qS rfl <| qS rfl <| qP rfl rfl rfl rfl <| qA rfl rfl rfl <| qN <| mwp_ret ?_
   exact ret_tmp (.inr rfl) Try.results63 rfl (.of_eq (by congr 1; unfold isRowF; rw [← short_any, Bool.eq_iff_iff]; simp_all <;> omega)) (.bool _) ⟨rfl, rfl⟩
 ·
  refine qS rfl <| qS rfl <| qP rfl rfl rfl rfl <| qM rfl rfl rfl <| qS rfl <| qS rfl <| qS rfl <| qP rfl rfl rfl rfl <| qA rfl rfl rfl <| qN <| mwp_ret ?_
  exact ret_tmp (.inr rfl) Try.results63 rfl (.of_eq (by congr 1; unfold isRowF; rw [← short_any, Bool.eq_iff_iff]; simp_all <;> omega)) (.bool _) ⟨rfl, rfl⟩
theorem isLast_spec (n m : Int) (s : List Bs) (c : List (List Tk)) (w : List Val) (hn : 0 ≤ n) (hm : 0 ≤ m) (S : MS) : MCalls Try.prog 67 [encV (.mk n m s c w)] S fun v σ' => v = .bool (isLastF n m s) ∧ σ' = S := by
 refine mcalls_body Try.func67 rfl Try.ntmps67 (Nat.le_of_ble_eq_true rfl) ?_
 refine mwp_seq <| qR rfl <| qB rfl rfl rfl rfl rfl <| qA rfl rfl rfl <| qN <| mwp_seq <| mwp_seq <| qR rfl <| qF rfl rfl rfl fo29_2 <| qL rfl rfl rfl rfl ta25 rfl <| qE rfl rfl Try.underlying25 rfl <| qC rfl rfl rfl rfl rfl <| qN ?_
 refine mwp_cond_split rfl (fun h6 => ?_) (fun h6 => ?_)
 ·
  have hs0 : s = [] := by simpa using h6
  subst hs0
  refine mwp_seq <| qR rfl <| qF rfl rfl rfl fo29_0 <| qL rfl rfl rfl rfl ta22 rfl <| qC rfl rfl rfl rfl rfl <| qM rfl rfl rfl ?_
  refine wOps_case (fun h10 => ?_) (fun h10 => ?_)
  ·
   refine qF rfl rfl rfl fo29_1 <| qL rfl rfl rfl rfl ta22 rfl <| qC rfl rfl rfl rfl rfl <| qP rfl rfl rfl rfl <| qA rfl rfl rfl <| qN <| mwp_ret ?_
   exact ret_tmp (.inr rfl) Try.results67 rfl (.of_eq (by first | (rw [hF]; done) | (congr 1; rw [Bool.eq_iff_iff]; simp_all [isLastF]; done) | (congr 1; rw [Bool.eq_iff_iff]; simp_all [isLastF]; omega))) (.bool _) ⟨rfl, rfl⟩
  ·
   refine qS rfl <| qS rfl <| qS rfl <| qP rfl rfl rfl rfl <| qA rfl rfl rfl <| qN <| mwp_ret ?_
   exact ret_tmp (.inr rfl) Try.results67 rfl (.of_eq (by first | (rw [hF]; done) | (congr 1; rw [Bool.eq_iff_iff]; simp_all [isLastF]; done) | (congr 1; rw [Bool.eq_iff_iff]; simp_all [isLastF]; omega))) (.bool _) ⟨rfl, rfl⟩
 ·
  have hs0 : ¬ s = [] := by simpa using h6
  refine mwp_skip <| mwp_seq <| qR rfl <| qF rfl rfl rfl fo29_2 <| qL rfl rfl rfl rfl ta25 rfl <| qE rfl rfl Try.underlying25 rfl <| qC rfl rfl rfl rfl rfl <| qM rfl rfl rfl ?_
  refine wOps_case (fun h19 => ?_) (fun h19 => ?_)
  ·
   obtain ⟨t, rfl⟩ := one_of (by rw [List.length_map] at h19; simp at h19; omega : s.length = 1)
   refine qF rfl rfl rfl fo29_2 <| qL rfl rfl rfl rfl ta25 rfl <| qO rfl <| op_indexAddr rfl Try.underlying25 sz9 (by decide) rfl rfl rfl (show _ = some (encX t) from rfl) ?_
   refine qO rfl <| op_load_sptr rfl rfl ta9 rfl <| qO rfl <| op_len_bs rfl Try.underlying9 rfl <| qC rfl rfl rfl rfl rfl <| qP rfl rfl rfl rfl <| qM rfl rfl rfl ?_
   refine wOps_case (fun h27 => ?_) (fun h27 => ?_)
   ·
    have h27n : t.length ≤ 16 := by simp at h27; omega
    refine qF rfl rfl rfl fo29_0 <| qL rfl rfl rfl rfl ta22 rfl <| qC rfl rfl rfl rfl rfl <| qM rfl rfl rfl ?_
    refine wOps_case (fun h31 => ?_) (fun h31 => ?_)
    ·
     refine qS rfl <| qS rfl <| qS rfl <| qP rfl rfl rfl rfl <| qM rfl rfl rfl <| qS rfl <| qS rfl <| qS rfl <| qS rfl <| qS rfl <| qP rfl rfl rfl rfl <| qP rfl rfl rfl rfl <| qA rfl rfl rfl <| qN <| mwp_ret ?_
     exact ret_tmp (.inr rfl) Try.results67 rfl (.of_eq (by first | (rw [hF]; done) | (congr 1; rw [Bool.eq_iff_iff]; simp_all [isLastF]; done) | (congr 1; rw [Bool.eq_iff_iff]; simp_all [isLastF]; omega))) (.bool _) ⟨rfl, rfl⟩
    ·
     have hn0 : n = 0 := by simp at h31; omega
     subst hn0
     refine qF rfl rfl rfl fo29_1 <| qL rfl rfl rfl rfl ta22 rfl <| qC rfl rfl rfl rfl rfl <| qP rfl rfl rfl rfl <| qM rfl rfl rfl ?_
     refine wOps_case (fun h36 => ?_) (fun h36 => ?_)
     ·
      refine qS rfl <| qS rfl <| qS rfl <| qS rfl <| qS rfl <| qP rfl rfl rfl rfl <| qP rfl rfl rfl rfl <| qA rfl rfl rfl <| qN <| mwp_ret ?_
      exact ret_tmp (.inr rfl) Try.results67 rfl (.of_eq (by first | (rw [hF]; done) | (congr 1; rw [Bool.eq_iff_iff]; simp_all [isLastF]; done) | (congr 1; rw [Bool.eq_iff_iff]; simp_all [isLastF]; omega))) (.bool _) ⟨rfl, rfl⟩
     ·
      have hm0 : m = 0 := by simp at h36; omega
      subst hm0
      refine qF rfl rfl rfl fo29_2 <| qL rfl rfl rfl rfl ta25 rfl <| qO rfl <| op_indexAddr rfl Try.underlying25 sz9 (by decide) rfl rfl rfl (show _ = some (encX t) from rfl) ?_
      refine qO rfl <| op_load_sptr rfl rfl ta9 rfl <| qO rfl <| op_strcmp rfl rfl rfl rfl <| qP rfl rfl rfl rfl <| qP rfl rfl rfl rfl <| qA rfl rfl rfl <| qN <| mwp_ret ?_
      exact ret_tmp (.inr rfl) Try.results67 rfl (.of_eq (by first | (rw [hF]; done) | (congr 1; rw [Bool.eq_iff_iff]; simp_all [isLastF]; done) | (congr 1; rw [Bool.eq_iff_iff]; simp_all [isLastF]; omega))) (.bool _) ⟨rfl, rfl⟩
   ·
    refine qS rfl <| qS rfl <| qS rfl <| qS rfl <| qS rfl <| qS rfl <| qS rfl <| qS rfl <| qS rfl <| qS rfl <| qS rfl <| qS rfl <| qS rfl <| qS rfl <| qS rfl <| qP rfl rfl rfl rfl <| qA rfl rfl rfl <| qN <| mwp_ret ?_
    exact ret_tmp (.inr rfl) Try.results67 rfl (.of_eq (by first | (rw [hF]; done) | (congr 1; rw [Bool.eq_iff_iff]; simp_all [isLastF]; done) | (congr 1; rw [Bool.eq_iff_iff]; simp_all [isLastF]; omega))) (.bool _) ⟨rfl, rfl⟩
  ·
   have hF : isLastF n m s = false := last_no hs0 (fun e => by rw [List.length_map, e] at h19; simp at h19)
   refine qS rfl <| qS rfl <| qS rfl <| qS rfl <| qS rfl <| qS rfl <| qP rfl rfl rfl rfl <| qM rfl rfl rfl <| qS rfl <| qS rfl <| qS rfl <| qS rfl <| qS rfl <| qS rfl <| qS rfl <| qS rfl <| qS rfl <| qS rfl <| qS rfl <| qS rfl <| qS rfl <| qS rfl <| qS rfl <| qP rfl rfl rfl rfl <| qA rfl rfl rfl <| qN ?_
   refine mwp_ret ?_
   exact ret_tmp (.inr rfl) Try.results67 rfl (.of_eq (by first | (rw [hF]; done) | (congr 1; rw [Bool.eq_iff_iff]; simp_all [isLastF]; done) | (congr 1; rw [Bool.eq_iff_iff]; simp_all [isLastF]; omega))) (.bool _) ⟨rfl, rfl⟩
theorem bare_spec (k : Int) (hk : k = 1 ∨ k = 2 ∨ k = 3 ∨ k = 4 ∨ k = 5 ∨ k = 6 ∨ k = 7 ∨ k = 8) (n m : Int) (s : List Bs) (c : List (List Tk)) (w : List Val) (S : MS) : MCalls Try.prog 61 [.int .i64 k, encV (.mk n m s c w)] S fun v σ' => v = .bool (bareF k (.mk n m s c w)) ∧ σ' = S := by
 rcases hk with rfl | rfl | rfl | rfl | rfl | rfl | rfl | rfl
 ·
  refine mcalls_body Try.func61 rfl Try.ntmps61 (Nat.le_of_ble_eq_true rfl) ?_
  refine mwp_seq <| qR rfl <| qB rfl rfl rfl rfl rfl <| qA rfl rfl rfl <| qN <| mwp_seq <| qR rfl <| qM rfl rfl rfl <| qC rfl rfl rfl rfl rfl <| qM rfl rfl rfl <| qS rfl <| qS rfl <| qP rfl rfl rfl rfl <| qM rfl rfl rfl <| qS rfl <| qS rfl <| qP rfl rfl rfl rfl <| qA rfl rfl rfl <| qN <| mwp_seq <| qR rfl ?_
  refine qM rfl rfl rfl <| qC rfl rfl rfl rfl rfl <| qM rfl rfl rfl <| qM rfl rfl rfl <| qC rfl rfl rfl rfl rfl <| qP rfl rfl rfl rfl <| qM rfl rfl rfl <| qM rfl rfl rfl <| qC rfl rfl rfl rfl rfl <| qP rfl rfl rfl rfl <| qA rfl rfl rfl <| qN <| mwp_seq <| qR rfl <| qM rfl rfl rfl <| qC rfl rfl rfl rfl rfl <| qM rfl rfl rfl ?_
  refine qM rfl rfl rfl <| qC rfl rfl rfl rfl rfl <| qP rfl rfl rfl rfl <| qA rfl rfl rfl <| qN <| mwp_seq <| qR rfl <| qM rfl rfl rfl <| qC rfl rfl rfl rfl rfl <| qM rfl rfl rfl <| qM rfl rfl rfl <| qC rfl rfl rfl rfl rfl <| qP rfl rfl rfl rfl <| qM rfl rfl rfl <| qM rfl rfl rfl <| qC rfl rfl rfl rfl rfl <| qP rfl rfl rfl rfl ?_
  refine qA rfl rfl rfl <| qN <| mwp_seq <| qR rfl <| qM rfl rfl rfl <| qM rfl rfl rfl <| qS rfl <| qS rfl <| qS rfl <| qP rfl rfl rfl rfl <| qM rfl rfl rfl <| qM rfl rfl rfl <| qC rfl rfl rfl rfl rfl <| qM rfl rfl rfl <| qF rfl rfl rfl fo29_1 <| qL rfl rfl rfl rfl ta22 rfl <| qC rfl rfl rfl rfl rfl <| qP rfl rfl rfl rfl ?_
  refine qP rfl rfl rfl rfl <| qM rfl rfl rfl ?_
  refine wOps_case (fun h60 => ?_) (fun h60 => ?_)
  ·
   refine qM rfl rfl rfl <| qM rfl rfl rfl <| qF rfl rfl rfl fo29_2 <| qL rfl rfl rfl rfl ta25 rfl <| qE rfl rfl Try.underlying25 rfl <| qC rfl rfl rfl rfl rfl <| qP rfl rfl rfl rfl <| qP rfl rfl rfl rfl <| qM rfl rfl rfl ?_
   refine wOps_case (fun h69 => ?_) (fun h69 => ?_)
   ·
    refine qM rfl rfl rfl <| qM rfl rfl rfl <| qF rfl rfl rfl fo29_3 <| qL rfl rfl rfl rfl ta26 rfl <| qE rfl rfl Try.underlying26 rfl <| qC rfl rfl rfl rfl rfl <| qP rfl rfl rfl rfl <| qP rfl rfl rfl rfl <| qM rfl rfl rfl ?_
    refine wOps_case (fun h78 => ?_) (fun h78 => ?_)
    ·
     refine qM rfl rfl rfl <| qM rfl rfl rfl <| qF rfl rfl rfl fo29_4 <| qL rfl rfl rfl rfl ta27 rfl <| qE rfl rfl Try.underlying27 rfl ?_
     try rw [encVs_length]
     refine qC rfl rfl rfl rfl rfl <| qP rfl rfl rfl rfl <| qP rfl rfl rfl rfl <| qA rfl rfl rfl <| qN <| mwp_ret ?_
     exact ret_tmp (.inr rfl) Try.results61 rfl (.of_eq (by congr 1; rw [Bool.eq_iff_iff]; simp_all [bareF, numsK, textsK, clocksK, valuesK, Val.nv, Val.mv, Val.sv, Val.cv, Val.vv])) (.bool _) ⟨rfl, rfl⟩
    ·
     refine qS rfl <| qS rfl <| qS rfl <| qS rfl <| qS rfl <| qS rfl <| qS rfl <| qP rfl rfl rfl rfl <| qA rfl rfl rfl <| qN <| mwp_ret ?_
     exact ret_tmp (.inr rfl) Try.results61 rfl (.of_eq (by congr 1; rw [Bool.eq_iff_iff]; simp_all [bareF, numsK, textsK, clocksK, valuesK, Val.nv, Val.mv, Val.sv, Val.cv, Val.vv])) (.bool _) ⟨rfl, rfl⟩
   ·
    refine qS rfl <| qS rfl <| qS rfl <| qS rfl <| qS rfl <| qS rfl <| qS rfl <| qP rfl rfl rfl rfl <| qM rfl rfl rfl <| qS rfl <| qS rfl <| qS rfl <| qS rfl <| qS rfl <| qS rfl <| qS rfl <| qP rfl rfl rfl rfl <| qA rfl rfl rfl <| qN <| mwp_ret ?_
    exact ret_tmp (.inr rfl) Try.results61 rfl (.of_eq (by congr 1; rw [Bool.eq_iff_iff]; simp_all [bareF, numsK, textsK, clocksK, valuesK, Val.nv, Val.mv, Val.sv, Val.cv, Val.vv])) (.bool _) ⟨rfl, rfl⟩
  ·
   refine qS rfl <| qS rfl <| qS rfl <| qS rfl <| qS rfl <| qS rfl <| qS rfl <| qP rfl rfl rfl rfl <| qM rfl rfl rfl <| qS rfl <| qS rfl <| qS rfl <| qS rfl <| qS rfl <| qS rfl <| qS rfl <| qP rfl rfl rfl rfl <| qM rfl rfl rfl <| qS rfl <| qS rfl <| qS rfl <| qS rfl <| qS rfl <| qS rfl <| qS rfl <| qP rfl rfl rfl rfl ?_
   refine qA rfl rfl rfl <| qN <| mwp_ret ?_
   exact ret_tmp (.inr rfl) Try.results61 rfl (.of_eq (by congr 1; rw [Bool.eq_iff_iff]; simp_all [bareF, numsK, textsK, clocksK, valuesK, Val.nv, Val.mv, Val.sv, Val.cv, Val.vv])) (.bool _) ⟨rfl, rfl⟩
 ·
  refine mcalls_body Try.func61 rfl Try.ntmps61 (Nat.le_of_ble_eq_true rfl) ?_
  refine mwp_seq <| qR rfl <| qB rfl rfl rfl rfl rfl <| qA rfl rfl rfl <| qN <| mwp_seq <| qR rfl <| qM rfl rfl rfl <| qC rfl rfl rfl rfl rfl <| qM rfl rfl rfl <| qM rfl rfl rfl <| qC rfl rfl rfl rfl rfl <| qP rfl rfl rfl rfl <| qM rfl rfl rfl <| qS rfl <| qS rfl <| qP rfl rfl rfl rfl <| qA rfl rfl rfl <| qN ?_
  refine mwp_seq <| qR rfl <| qM rfl rfl rfl <| qC rfl rfl rfl rfl rfl <| qM rfl rfl rfl <| qM rfl rfl rfl <| qC rfl rfl rfl rfl rfl <| qP rfl rfl rfl rfl <| qM rfl rfl rfl <| qM rfl rfl rfl <| qC rfl rfl rfl rfl rfl <| qP rfl rfl rfl rfl <| qA rfl rfl rfl <| qN <| mwp_seq <| qR rfl <| qM rfl rfl rfl <| qC rfl rfl rfl rfl rfl ?_
  refine qM rfl rfl rfl <| qM rfl rfl rfl <| qC rfl rfl rfl rfl rfl <| qP rfl rfl rfl rfl <| qA rfl rfl rfl <| qN <| mwp_seq <| qR rfl <| qM rfl rfl rfl <| qC rfl rfl rfl rfl rfl <| qM rfl rfl rfl <| qM rfl rfl rfl <| qC rfl rfl rfl rfl rfl <| qP rfl rfl rfl rfl <| qM rfl rfl rfl <| qM rfl rfl rfl <| qC rfl rfl rfl rfl rfl ?_
  refine qP rfl rfl rfl rfl <| qA rfl rfl rfl <| qN <| mwp_seq <| qR rfl <| qM rfl rfl rfl <| qM rfl rfl rfl <| qS rfl <| qS rfl <| qS rfl <| qP rfl rfl rfl rfl <| qM rfl rfl rfl <| qM rfl rfl rfl <| qC rfl rfl rfl rfl rfl <| qM rfl rfl rfl <| qF rfl rfl rfl fo29_1 <| qL rfl rfl rfl rfl ta22 rfl <| qC rfl rfl rfl rfl rfl ?_
  refine qP rfl rfl rfl rfl <| qP rfl rfl rfl rfl <| qM rfl rfl rfl ?_
  refine wOps_case (fun h60 => ?_) (fun h60 => ?_)
  ·
   refine qM rfl rfl rfl <| qM rfl rfl rfl <| qF rfl rfl rfl fo29_2 <| qL rfl rfl rfl rfl ta25 rfl <| qE rfl rfl Try.underlying25 rfl <| qC rfl rfl rfl rfl rfl <| qP rfl rfl rfl rfl <| qP rfl rfl rfl rfl <| qM rfl rfl rfl ?_
   refine wOps_case (fun h69 => ?_) (fun h69 => ?_)
   ·
    refine qM rfl rfl rfl <| qM rfl rfl rfl <| qF rfl rfl rfl fo29_3 <| qL rfl rfl rfl rfl ta26 rfl <| qE rfl rfl Try.underlying26 rfl <| qC rfl rfl rfl rfl rfl <| qP rfl rfl rfl rfl <| qP rfl rfl rfl rfl <| qM rfl rfl rfl ?_
    refine wOps_case (fun h78 => ?_) (fun h78 => ?_)
    ·
     refine qM rfl rfl rfl <| qM rfl rfl rfl <| qF rfl rfl rfl fo29_4 <| qL rfl rfl rfl rfl ta27 rfl <| qE rfl rfl Try.underlying27 rfl ?_
     try rw [encVs_length]
     refine qC rfl rfl rfl rfl rfl <| qP rfl rfl rfl rfl <| qP rfl rfl rfl rfl <| qA rfl rfl rfl <| qN <| mwp_ret ?_
     exact ret_tmp (.inr rfl) Try.results61 rfl (.of_eq (by congr 1; rw [Bool.eq_iff_iff]; simp_all [bareF, numsK, textsK, clocksK, valuesK, Val.nv, Val.mv, Val.sv, Val.cv, Val.vv])) (.bool _) ⟨rfl, rfl⟩
    ·
     refine qS rfl <| qS rfl <| qS rfl <| qS rfl <| qS rfl <| qS rfl <| qS rfl <| qP rfl rfl rfl rfl <| qA rfl rfl rfl <| qN <| mwp_ret ?_
     exact ret_tmp (.inr rfl) Try.results61 rfl (.of_eq (by congr 1; rw [Bool.eq_iff_iff]; simp_all [bareF, numsK, textsK, clocksK, valuesK, Val.nv, Val.mv, Val.sv, Val.cv, Val.vv])) (.bool _) ⟨rfl, rfl⟩
   ·
    refine qS rfl <| qS rfl <| qS rfl <| qS rfl <| qS rfl <| qS rfl <| qS rfl <| qP rfl rfl rfl rfl <| qM rfl rfl rfl <| qS rfl <| qS rfl <| qS rfl <| qS rfl <| qS rfl <| qS rfl <| qS rfl <| qP rfl rfl rfl rfl <| qA rfl rfl rfl <| qN <| mwp_ret ?_
    exact ret_tmp (.inr rfl) Try.results61 rfl (.of_eq (by congr 1; rw [Bool.eq_iff_iff]; simp_all [bareF, numsK, textsK, clocksK, valuesK, Val.nv, Val.mv, Val.sv, Val.cv, Val.vv])) (.bool _) ⟨rfl, rfl⟩
  ·
   refine qS rfl <| qS rfl <| qS rfl <| qS rfl <| qS rfl <| qS rfl <| qS rfl <| qP rfl rfl rfl rfl <| qM rfl rfl rfl <| qS rfl <| qS rfl <| qS rfl <| qS rfl <| qS rfl <| qS rfl <| qS rfl <| qP rfl rfl rfl rfl <| qM rfl rfl rfl <| qS rfl <| qS rfl <| qS rfl <| qS rfl <| qS rfl <| qS rfl <| qS rfl <| qP rfl rfl rfl rfl ?_
   refine qA rfl rfl rfl <| qN <| mwp_ret ?_
   exact ret_tmp (.inr rfl) Try.results61 rfl (.of_eq (by congr 1; rw [Bool.eq_iff_iff]; simp_all [bareF, numsK, textsK, clocksK, valuesK, Val.nv, Val.mv, Val.sv, Val.cv, Val.vv])) (.bool _) ⟨rfl, rfl⟩
 ·
  refine mcalls_body Try.func61 rfl Try.ntmps61 (Nat.le_of_ble_eq_true rfl) ?_
  refine mwp_seq <| qR rfl <| qB rfl rfl rfl rfl rfl <| qA rfl rfl rfl <| qN <| mwp_seq <| qR rfl <| qM rfl rfl rfl <| qC rfl rfl rfl rfl rfl <| qM rfl rfl rfl <| qM rfl rfl rfl <| qC rfl rfl rfl rfl rfl <| qP rfl rfl rfl rfl <| qM rfl rfl rfl <| qM rfl rfl rfl <| qC rfl rfl rfl rfl rfl <| qP rfl rfl rfl rfl <| qA rfl rfl rfl ?_
  refine qN <| mwp_seq <| qR rfl <| qM rfl rfl rfl <| qC rfl rfl rfl rfl rfl <| qM rfl rfl rfl <| qS rfl <| qS rfl <| qP rfl rfl rfl rfl <| qM rfl rfl rfl <| qS rfl <| qS rfl <| qP rfl rfl rfl rfl <| qA rfl rfl rfl <| qN <| mwp_seq <| qR rfl <| qM rfl rfl rfl <| qC rfl rfl rfl rfl rfl <| qM rfl rfl rfl ?_
  refine qM rfl rfl rfl <| qC rfl rfl rfl rfl rfl <| qP rfl rfl rfl rfl <| qA rfl rfl rfl <| qN <| mwp_seq <| qR rfl <| qM rfl rfl rfl <| qC rfl rfl rfl rfl rfl <| qM rfl rfl rfl <| qM rfl rfl rfl <| qC rfl rfl rfl rfl rfl <| qP rfl rfl rfl rfl <| qM rfl rfl rfl <| qM rfl rfl rfl <| qC rfl rfl rfl rfl rfl <| qP rfl rfl rfl rfl ?_
  refine qA rfl rfl rfl <| qN <| mwp_seq <| qR rfl <| qM rfl rfl rfl <| qM rfl rfl rfl <| qF rfl rfl rfl fo29_0 <| qL rfl rfl rfl rfl ta22 rfl <| qC rfl rfl rfl rfl rfl <| qP rfl rfl rfl rfl <| qM rfl rfl rfl ?_
  refine wOps_case (fun h51 => ?_) (fun h51 => ?_)
  ·
   refine qM rfl rfl rfl <| qC rfl rfl rfl rfl rfl <| qM rfl rfl rfl <| qF rfl rfl rfl fo29_1 <| qL rfl rfl rfl rfl ta22 rfl <| qC rfl rfl rfl rfl rfl <| qP rfl rfl rfl rfl <| qP rfl rfl rfl rfl <| qM rfl rfl rfl ?_
   refine wOps_case (fun h60 => ?_) (fun h60 => ?_)
   ·
    refine qM rfl rfl rfl <| qM rfl rfl rfl <| qS rfl <| qS rfl <| qS rfl <| qS rfl <| qP rfl rfl rfl rfl <| qP rfl rfl rfl rfl <| qM rfl rfl rfl <| qM rfl rfl rfl <| qM rfl rfl rfl <| qF rfl rfl rfl fo29_3 <| qL rfl rfl rfl rfl ta26 rfl <| qE rfl rfl Try.underlying26 rfl <| qC rfl rfl rfl rfl rfl <| qP rfl rfl rfl rfl <| qP rfl rfl rfl rfl ?_
    refine qM rfl rfl rfl ?_
    refine wOps_case (fun h78 => ?_) (fun h78 => ?_)
    ·
     refine qM rfl rfl rfl <| qM rfl rfl rfl <| qF rfl rfl rfl fo29_4 <| qL rfl rfl rfl rfl ta27 rfl <| qE rfl rfl Try.underlying27 rfl ?_
     try rw [encVs_length]
     refine qC rfl rfl rfl rfl rfl <| qP rfl rfl rfl rfl <| qP rfl rfl rfl rfl <| qA rfl rfl rfl <| qN <| mwp_ret ?_
     exact ret_tmp (.inr rfl) Try.results61 rfl (.of_eq (by congr 1; rw [Bool.eq_iff_iff]; simp_all [bareF, numsK, textsK, clocksK, valuesK, Val.nv, Val.mv, Val.sv, Val.cv, Val.vv])) (.bool _) ⟨rfl, rfl⟩
    ·
     refine qS rfl <| qS rfl <| qS rfl <| qS rfl <| qS rfl <| qS rfl <| qS rfl <| qP rfl rfl rfl rfl <| qA rfl rfl rfl <| qN <| mwp_ret ?_
     exact ret_tmp (.inr rfl) Try.results61 rfl (.of_eq (by congr 1; rw [Bool.eq_iff_iff]; simp_all [bareF, numsK, textsK, clocksK, valuesK, Val.nv, Val.mv, Val.sv, Val.cv, Val.vv])) (.bool _) ⟨rfl, rfl⟩
   ·
    refine qS rfl <| qS rfl <| qS rfl <| qS rfl <| qS rfl <| qS rfl <| qS rfl <| qP rfl rfl rfl rfl <| qM rfl rfl rfl <| qS rfl <| qS rfl <| qS rfl <| qS rfl <| qS rfl <| qS rfl <| qS rfl <| qP rfl rfl rfl rfl <| qM rfl rfl rfl <| qS rfl <| qS rfl <| qS rfl <| qS rfl <| qS rfl <| qS rfl <| qS rfl <| qP rfl rfl rfl rfl ?_
    refine qA rfl rfl rfl <| qN <| mwp_ret ?_
    exact ret_tmp (.inr rfl) Try.results61 rfl (.of_eq (by congr 1; rw [Bool.eq_iff_iff]; simp_all [bareF, numsK, textsK, clocksK, valuesK, Val.nv, Val.mv, Val.sv, Val.cv, Val.vv])) (.bool _) ⟨rfl, rfl⟩
  ·
   refine qS rfl <| qS rfl <| qS rfl <| qS rfl <| qS rfl <| qS rfl <| qS rfl <| qP rfl rfl rfl rfl <| qM rfl rfl rfl <| qS rfl <| qS rfl <| qS rfl <| qS rfl <| qS rfl <| qS rfl <| qS rfl <| qP rfl rfl rfl rfl <| qM rfl rfl rfl <| qS rfl <| qS rfl <| qS rfl <| qS rfl <| qS rfl <| qS rfl <| qS rfl <| qP rfl rfl rfl rfl ?_
   refine qM rfl rfl rfl <| qS rfl <| qS rfl <| qS rfl <| qS rfl <| qS rfl <| qS rfl <| qS rfl <| qP rfl rfl rfl rfl <| qA rfl rfl rfl <| qN <| mwp_ret ?_
   exact ret_tmp (.inr rfl) Try.results61 rfl (.of_eq (by congr 1; rw [Bool.eq_iff_iff]; simp_all [bareF, numsK, textsK, clocksK, valuesK, Val.nv, Val.mv, Val.sv, Val.cv, Val.vv])) (.bool _) ⟨rfl, rfl⟩
 ·
  refine mcalls_body Try.func61 rfl Try.ntmps61 (Nat.le_of_ble_eq_true rfl) ?_
  refine mwp_seq <| qR rfl <| qB rfl rfl rfl rfl rfl <| qA rfl rfl rfl <| qN <| mwp_seq <| qR rfl <| qM rfl rfl rfl <| qC rfl rfl rfl rfl rfl <| qM rfl rfl rfl <| qM rfl rfl rfl <| qC rfl rfl rfl rfl rfl <| qP rfl rfl rfl rfl <| qM rfl rfl rfl <| qM rfl rfl rfl <| qC rfl rfl rfl rfl rfl <| qP rfl rfl rfl rfl <| qA rfl rfl rfl ?_
  refine qN <| mwp_seq <| qR rfl <| qM rfl rfl rfl <| qC rfl rfl rfl rfl rfl <| qM rfl rfl rfl <| qM rfl rfl rfl <| qC rfl rfl rfl rfl rfl <| qP rfl rfl rfl rfl <| qM rfl rfl rfl <| qS rfl <| qS rfl <| qP rfl rfl rfl rfl <| qA rfl rfl rfl <| qN <| mwp_seq <| qR rfl <| qM rfl rfl rfl <| qC rfl rfl rfl rfl rfl ?_
  refine qM rfl rfl rfl <| qM rfl rfl rfl <| qC rfl rfl rfl rfl rfl <| qP rfl rfl rfl rfl <| qA rfl rfl rfl <| qN <| mwp_seq <| qR rfl <| qM rfl rfl rfl <| qC rfl rfl rfl rfl rfl <| qM rfl rfl rfl <| qS rfl <| qS rfl <| qP rfl rfl rfl rfl <| qM rfl rfl rfl <| qS rfl <| qS rfl <| qP rfl rfl rfl rfl <| qA rfl rfl rfl ?_
  refine qN <| mwp_seq <| qR rfl <| qM rfl rfl rfl <| qM rfl rfl rfl <| qF rfl rfl rfl fo29_0 <| qL rfl rfl rfl rfl ta22 rfl <| qC rfl rfl rfl rfl rfl <| qP rfl rfl rfl rfl <| qM rfl rfl rfl ?_
  refine wOps_case (fun h51 => ?_) (fun h51 => ?_)
  ·
   refine qM rfl rfl rfl <| qC rfl rfl rfl rfl rfl <| qM rfl rfl rfl <| qF rfl rfl rfl fo29_1 <| qL rfl rfl rfl rfl ta22 rfl <| qC rfl rfl rfl rfl rfl <| qP rfl rfl rfl rfl <| qP rfl rfl rfl rfl <| qM rfl rfl rfl ?_
   refine wOps_case (fun h60 => ?_) (fun h60 => ?_)
   ·
    refine qM rfl rfl rfl <| qM rfl rfl rfl <| qS rfl <| qS rfl <| qS rfl <| qS rfl <| qP rfl rfl rfl rfl <| qP rfl rfl rfl rfl <| qM rfl rfl rfl <| qM rfl rfl rfl <| qM rfl rfl rfl <| qF rfl rfl rfl fo29_3 <| qL rfl rfl rfl rfl ta26 rfl <| qE rfl rfl Try.underlying26 rfl <| qC rfl rfl rfl rfl rfl <| qP rfl rfl rfl rfl <| qP rfl rfl rfl rfl ?_
    refine qM rfl rfl rfl ?_
    refine wOps_case (fun h78 => ?_) (fun h78 => ?_)
    ·
     refine qM rfl rfl rfl <| qM rfl rfl rfl <| qS rfl <| qS rfl <| qS rfl <| qS rfl <| qP rfl rfl rfl rfl <| qP rfl rfl rfl rfl <| qA rfl rfl rfl <| qN <| mwp_ret ?_
     exact ret_tmp (.inr rfl) Try.results61 rfl (.of_eq (by congr 1; rw [Bool.eq_iff_iff]; simp_all [bareF, numsK, textsK, clocksK, valuesK, Val.nv, Val.mv, Val.sv, Val.cv, Val.vv])) (.bool _) ⟨rfl, rfl⟩
    ·
     refine qS rfl <| qS rfl <| qS rfl <| qS rfl <| qS rfl <| qS rfl <| qS rfl <| qP rfl rfl rfl rfl <| qA rfl rfl rfl <| qN <| mwp_ret ?_
     exact ret_tmp (.inr rfl) Try.results61 rfl (.of_eq (by congr 1; rw [Bool.eq_iff_iff]; simp_all [bareF, numsK, textsK, clocksK, valuesK, Val.nv, Val.mv, Val.sv, Val.cv, Val.vv])) (.bool _) ⟨rfl, rfl⟩
   ·
    refine qS rfl <| qS rfl <| qS rfl <| qS rfl <| qS rfl <| qS rfl <| qS rfl <| qP rfl rfl rfl rfl <| qM rfl rfl rfl <| qS rfl <| qS rfl <| qS rfl <| qS rfl <| qS rfl <| qS rfl <| qS rfl <| qP rfl rfl rfl rfl <| qM rfl rfl rfl <| qS rfl <| qS rfl <| qS rfl <| qS rfl <| qS rfl <| qS rfl <| qS rfl <| qP rfl rfl rfl rfl ?_
    refine qA rfl rfl rfl <| qN <| mwp_ret ?_
    exact ret_tmp (.inr rfl) Try.results61 rfl (.of_eq (by congr 1; rw [Bool.eq_iff_iff]; simp_all [bareF, numsK, textsK, clocksK, valuesK, Val.nv, Val.mv, Val.sv, Val.cv, Val.vv])) (.bool _) ⟨rfl, rfl⟩
  ·
   refine qS rfl <| qS rfl <| qS rfl <| qS rfl <| qS rfl <| qS rfl <| qS rfl <| qP rfl rfl rfl rfl <| qM rfl rfl rfl <| qS rfl <| qS rfl <| qS rfl <| qS rfl <| qS rfl <| qS rfl <| qS rfl <| qP rfl rfl rfl rfl <| qM rfl rfl rfl <| qS rfl <| qS rfl <| qS rfl <| qS rfl <| qS rfl <| qS rfl <| qS rfl <| qP rfl rfl rfl rfl ?_
   refine qM rfl rfl rfl <| qS rfl <| qS rfl <| qS rfl <| qS rfl <| qS rfl <| qS rfl <| qS rfl <| qP rfl rfl rfl rfl <| qA rfl rfl rfl <| qN <| mwp_ret ?_
   exact ret_tmp (.inr rfl) Try.results61 rfl (.of_eq (by congr 1; rw [Bool.eq_iff_iff]; simp_all [bareF, numsK, textsK, clocksK, valuesK, Val.nv, Val.mv, Val.sv, Val.cv, Val.vv])) (.bool _) ⟨rfl, rfl⟩
 ·
  refine mcalls_body Try.func61 rfl Try.ntmps61 (Nat.le_of_ble_eq_true rfl) ?_
  refine mwp_seq <| qR rfl <| qB rfl rfl rfl rfl rfl <| qA rfl rfl rfl <| qN <| mwp_seq <| qR rfl <| qM rfl rfl rfl <| qC rfl rfl rfl rfl rfl <| qM rfl rfl rfl <| qM rfl rfl rfl <| qC rfl rfl rfl rfl rfl <| qP rfl rfl rfl rfl <| qM rfl rfl rfl <| qM rfl rfl rfl <| qC rfl rfl rfl rfl rfl <| qP rfl rfl rfl rfl <| qA rfl rfl rfl ?_
  refine qN <| mwp_seq <| qR rfl <| qM rfl rfl rfl <| qC rfl rfl rfl rfl rfl <| qM rfl rfl rfl <| qM rfl rfl rfl <| qC rfl rfl rfl rfl rfl <| qP rfl rfl rfl rfl <| qM rfl rfl rfl <| qM rfl rfl rfl <| qC rfl rfl rfl rfl rfl <| qP rfl rfl rfl rfl <| qA rfl rfl rfl <| qN <| mwp_seq <| qR rfl <| qM rfl rfl rfl ?_
  refine qC rfl rfl rfl rfl rfl <| qM rfl rfl rfl <| qM rfl rfl rfl <| qC rfl rfl rfl rfl rfl <| qP rfl rfl rfl rfl <| qA rfl rfl rfl <| qN <| mwp_seq <| qR rfl <| qM rfl rfl rfl <| qC rfl rfl rfl rfl rfl <| qM rfl rfl rfl <| qM rfl rfl rfl <| qC rfl rfl rfl rfl rfl <| qP rfl rfl rfl rfl <| qM rfl rfl rfl <| qS rfl ?_
  refine qS rfl <| qP rfl rfl rfl rfl <| qA rfl rfl rfl <| qN <| mwp_seq <| qR rfl <| qM rfl rfl rfl <| qM rfl rfl rfl <| qF rfl rfl rfl fo29_0 <| qL rfl rfl rfl rfl ta22 rfl <| qC rfl rfl rfl rfl rfl <| qP rfl rfl rfl rfl <| qM rfl rfl rfl ?_
  refine wOps_case (fun h51 => ?_) (fun h51 => ?_)
  ·
   refine qM rfl rfl rfl <| qC rfl rfl rfl rfl rfl <| qM rfl rfl rfl <| qF rfl rfl rfl fo29_1 <| qL rfl rfl rfl rfl ta22 rfl <| qC rfl rfl rfl rfl rfl <| qP rfl rfl rfl rfl <| qP rfl rfl rfl rfl <| qM rfl rfl rfl ?_
   refine wOps_case (fun h60 => ?_) (fun h60 => ?_)
   ·
    refine qM rfl rfl rfl <| qM rfl rfl rfl <| qF rfl rfl rfl fo29_2 <| qL rfl rfl rfl rfl ta25 rfl <| qE rfl rfl Try.underlying25 rfl <| qC rfl rfl rfl rfl rfl <| qP rfl rfl rfl rfl <| qP rfl rfl rfl rfl <| qM rfl rfl rfl ?_
    refine wOps_case (fun h69 => ?_) (fun h69 => ?_)
    ·
     refine qM rfl rfl rfl <| qM rfl rfl rfl <| qF rfl rfl rfl fo29_3 <| qL rfl rfl rfl rfl ta26 rfl <| qE rfl rfl Try.underlying26 rfl <| qC rfl rfl rfl rfl rfl <| qP rfl rfl rfl rfl <| qP rfl rfl rfl rfl <| qM rfl rfl rfl ?_
     refine wOps_case (fun h78 => ?_) (fun h78 => ?_)
     ·
      refine qM rfl rfl rfl <| qM rfl rfl rfl <| qS rfl <| qS rfl <| qS rfl <| qS rfl <| qP rfl rfl rfl rfl <| qP rfl rfl rfl rfl <| qA rfl rfl rfl <| qN <| mwp_ret ?_
      exact ret_tmp (.inr rfl) Try.results61 rfl (.of_eq (by congr 1; rw [Bool.eq_iff_iff]; simp_all [bareF, numsK, textsK, clocksK, valuesK, Val.nv, Val.mv, Val.sv, Val.cv, Val.vv])) (.bool _) ⟨rfl, rfl⟩
     ·
      refine qS rfl <| qS rfl <| qS rfl <| qS rfl <| qS rfl <| qS rfl <| qS rfl <| qP rfl rfl rfl rfl <| qA rfl rfl rfl <| qN <| mwp_ret ?_
      exact ret_tmp (.inr rfl) Try.results61 rfl (.of_eq (by congr 1; rw [Bool.eq_iff_iff]; simp_all [bareF, numsK, textsK, clocksK, valuesK, Val.nv, Val.mv, Val.sv, Val.cv, Val.vv])) (.bool _) ⟨rfl, rfl⟩
    ·
     refine qS rfl <| qS rfl <| qS rfl <| qS rfl <| qS rfl <| qS rfl <| qS rfl <| qP rfl rfl rfl rfl <| qM rfl rfl rfl <| qS rfl <| qS rfl <| qS rfl <| qS rfl <| qS rfl <| qS rfl <| qS rfl <| qP rfl rfl rfl rfl <| qA rfl rfl rfl <| qN <| mwp_ret ?_
     exact ret_tmp (.inr rfl) Try.results61 rfl (.of_eq (by congr 1; rw [Bool.eq_iff_iff]; simp_all [bareF, numsK, textsK, clocksK, valuesK, Val.nv, Val.mv, Val.sv, Val.cv, Val.vv])) (.bool _) ⟨rfl, rfl⟩
   ·
    refine qS rfl <| qS rfl <| qS rfl <| qS rfl <| qS rfl <| qS rfl <| qS rfl <| qP rfl rfl rfl rfl <| qM rfl rfl rfl <| qS rfl <| qS rfl <| qS rfl <| qS rfl <| qS rfl <| qS rfl <| qS rfl <| qP rfl rfl rfl rfl <| qM rfl rfl rfl <| qS rfl <| qS rfl <| qS rfl <| qS rfl <| qS rfl <| qS rfl <| qS rfl <| qP rfl rfl rfl rfl ?_
    refine qA rfl rfl rfl <| qN <| mwp_ret ?_
    exact ret_tmp (.inr rfl) Try.results61 rfl (.of_eq (by congr 1; rw [Bool.eq_iff_iff]; simp_all [bareF, numsK, textsK, clocksK, valuesK, Val.nv, Val.mv, Val.sv, Val.cv, Val.vv])) (.bool _) ⟨rfl, rfl⟩
  ·
   refine qS rfl <| qS rfl <| qS rfl <| qS rfl <| qS rfl <| qS rfl <| qS rfl <| qP rfl rfl rfl rfl <| qM rfl rfl rfl <| qS rfl <| qS rfl <| qS rfl <| qS rfl <| qS rfl <| qS rfl <| qS rfl <| qP rfl rfl rfl rfl <| qM rfl rfl rfl <| qS rfl <| qS rfl <| qS rfl <| qS rfl <| qS rfl <| qS rfl <| qS rfl <| qP rfl rfl rfl rfl ?_
   refine qM rfl rfl rfl <| qS rfl <| qS rfl <| qS rfl <| qS rfl <| qS rfl <| qS rfl <| qS rfl <| qP rfl rfl rfl rfl <| qA rfl rfl rfl <| qN <| mwp_ret ?_
   exact ret_tmp (.inr rfl) Try.results61 rfl (.of_eq (by congr 1; rw [Bool.eq_iff_iff]; simp_all [bareF, numsK, textsK, clocksK, valuesK, Val.nv, Val.mv, Val.sv, Val.cv, Val.vv])) (.bool _) ⟨rfl, rfl⟩
 ·
  refine mcalls_body Try.func61 rfl Try.ntmps61 (Nat.le_of_ble_eq_true rfl) ?_
  refine mwp_seq <| qR rfl <| qB rfl rfl rfl rfl rfl <| qA rfl rfl rfl <| qN <| mwp_seq <| qR rfl <| qM rfl rfl rfl <| qC rfl rfl rfl rfl rfl <| qM rfl rfl rfl <| qM rfl rfl rfl <| qC rfl rfl rfl rfl rfl <| qP rfl rfl rfl rfl <| qM rfl rfl rfl <| qM rfl rfl rfl <| qC rfl rfl rfl rfl rfl <| qP rfl rfl rfl rfl <| qA rfl rfl rfl ?_
  refine qN <| mwp_seq <| qR rfl <| qM rfl rfl rfl <| qC rfl rfl rfl rfl rfl <| qM rfl rfl rfl <| qM rfl rfl rfl <| qC rfl rfl rfl rfl rfl <| qP rfl rfl rfl rfl <| qM rfl rfl rfl <| qM rfl rfl rfl <| qC rfl rfl rfl rfl rfl <| qP rfl rfl rfl rfl <| qA rfl rfl rfl <| qN <| mwp_seq <| qR rfl <| qM rfl rfl rfl ?_
  refine qC rfl rfl rfl rfl rfl <| qM rfl rfl rfl <| qM rfl rfl rfl <| qC rfl rfl rfl rfl rfl <| qP rfl rfl rfl rfl <| qA rfl rfl rfl <| qN <| mwp_seq <| qR rfl <| qM rfl rfl rfl <| qC rfl rfl rfl rfl rfl <| qM rfl rfl rfl <| qM rfl rfl rfl <| qC rfl rfl rfl rfl rfl <| qP rfl rfl rfl rfl <| qM rfl rfl rfl <| qM rfl rfl rfl ?_
  refine qC rfl rfl rfl rfl rfl <| qP rfl rfl rfl rfl <| qA rfl rfl rfl <| qN <| mwp_seq <| qR rfl <| qM rfl rfl rfl <| qM rfl rfl rfl <| qS rfl <| qS rfl <| qS rfl <| qP rfl rfl rfl rfl <| qM rfl rfl rfl <| qM rfl rfl rfl <| qC rfl rfl rfl rfl rfl <| qM rfl rfl rfl <| qS rfl <| qS rfl <| qS rfl <| qP rfl rfl rfl rfl ?_
  refine qP rfl rfl rfl rfl <| qM rfl rfl rfl <| qM rfl rfl rfl <| qM rfl rfl rfl <| qS rfl <| qS rfl <| qS rfl <| qS rfl <| qP rfl rfl rfl rfl <| qP rfl rfl rfl rfl <| qM rfl rfl rfl <| qM rfl rfl rfl <| qM rfl rfl rfl <| qF rfl rfl rfl fo29_3 <| qL rfl rfl rfl rfl ta26 rfl <| qE rfl rfl Try.underlying26 rfl <| qC rfl rfl rfl rfl rfl ?_
  refine qP rfl rfl rfl rfl <| qP rfl rfl rfl rfl <| qM rfl rfl rfl ?_
  refine wOps_case (fun h78 => ?_) (fun h78 => ?_)
  ·
   refine qM rfl rfl rfl <| qM rfl rfl rfl <| qF rfl rfl rfl fo29_4 <| qL rfl rfl rfl rfl ta27 rfl <| qE rfl rfl Try.underlying27 rfl ?_
   try rw [encVs_length]
   refine qC rfl rfl rfl rfl rfl <| qP rfl rfl rfl rfl <| qP rfl rfl rfl rfl <| qA rfl rfl rfl <| qN <| mwp_ret ?_
   exact ret_tmp (.inr rfl) Try.results61 rfl (.of_eq (by congr 1; rw [Bool.eq_iff_iff]; simp_all [bareF, numsK, textsK, clocksK, valuesK, Val.nv, Val.mv, Val.sv, Val.cv, Val.vv])) (.bool _) ⟨rfl, rfl⟩
  ·
   refine qS rfl <| qS rfl <| qS rfl <| qS rfl <| qS rfl <| qS rfl <| qS rfl <| qP rfl rfl rfl rfl <| qA rfl rfl rfl <| qN <| mwp_ret ?_
   exact ret_tmp (.inr rfl) Try.results61 rfl (.of_eq (by congr 1; rw [Bool.eq_iff_iff]; simp_all [bareF, numsK, textsK, clocksK, valuesK, Val.nv, Val.mv, Val.sv, Val.cv, Val.vv])) (.bool _) ⟨rfl, rfl⟩
 ·
  refine mcalls_body Try.func61 rfl Try.ntmps61 (Nat.le_of_ble_eq_true rfl) ?_
  refine mwp_seq <| qR rfl <| qB rfl rfl rfl rfl rfl <| qA rfl rfl rfl <| qN <| mwp_seq <| qR rfl <| qM rfl rfl rfl <| qC rfl rfl rfl rfl rfl <| qM rfl rfl rfl <| qM rfl rfl rfl <| qC rfl rfl rfl rfl rfl <| qP rfl rfl rfl rfl <| qM rfl rfl rfl <| qM rfl rfl rfl <| qC rfl rfl rfl rfl rfl <| qP rfl rfl rfl rfl <| qA rfl rfl rfl ?_
  refine qN <| mwp_seq <| qR rfl <| qM rfl rfl rfl <| qC rfl rfl rfl rfl rfl <| qM rfl rfl rfl <| qM rfl rfl rfl <| qC rfl rfl rfl rfl rfl <| qP rfl rfl rfl rfl <| qM rfl rfl rfl <| qM rfl rfl rfl <| qC rfl rfl rfl rfl rfl <| qP rfl rfl rfl rfl <| qA rfl rfl rfl <| qN <| mwp_seq <| qR rfl <| qM rfl rfl rfl ?_
  refine qC rfl rfl rfl rfl rfl <| qM rfl rfl rfl <| qS rfl <| qS rfl <| qP rfl rfl rfl rfl <| qA rfl rfl rfl <| qN <| mwp_seq <| qR rfl <| qM rfl rfl rfl <| qC rfl rfl rfl rfl rfl <| qM rfl rfl rfl <| qM rfl rfl rfl <| qC rfl rfl rfl rfl rfl <| qP rfl rfl rfl rfl <| qM rfl rfl rfl <| qM rfl rfl rfl <| qC rfl rfl rfl rfl rfl ?_
  refine qP rfl rfl rfl rfl <| qA rfl rfl rfl <| qN <| mwp_seq <| qR rfl <| qM rfl rfl rfl <| qM rfl rfl rfl <| qF rfl rfl rfl fo29_0 <| qL rfl rfl rfl rfl ta22 rfl <| qC rfl rfl rfl rfl rfl <| qP rfl rfl rfl rfl <| qM rfl rfl rfl ?_
  refine wOps_case (fun h51 => ?_) (fun h51 => ?_)
  ·
   refine qM rfl rfl rfl <| qC rfl rfl rfl rfl rfl <| qM rfl rfl rfl <| qF rfl rfl rfl fo29_1 <| qL rfl rfl rfl rfl ta22 rfl <| qC rfl rfl rfl rfl rfl <| qP rfl rfl rfl rfl <| qP rfl rfl rfl rfl <| qM rfl rfl rfl ?_
   refine wOps_case (fun h60 => ?_) (fun h60 => ?_)
   ·
    refine qM rfl rfl rfl <| qM rfl rfl rfl <| qF rfl rfl rfl fo29_2 <| qL rfl rfl rfl rfl ta25 rfl <| qE rfl rfl Try.underlying25 rfl <| qC rfl rfl rfl rfl rfl <| qP rfl rfl rfl rfl <| qP rfl rfl rfl rfl <| qM rfl rfl rfl ?_
    refine wOps_case (fun h69 => ?_) (fun h69 => ?_)
    ·
     refine qM rfl rfl rfl <| qM rfl rfl rfl <| qS rfl <| qS rfl <| qS rfl <| qS rfl <| qP rfl rfl rfl rfl <| qP rfl rfl rfl rfl <| qM rfl rfl rfl <| qM rfl rfl rfl <| qM rfl rfl rfl <| qF rfl rfl rfl fo29_4 <| qL rfl rfl rfl rfl ta27 rfl <| qE rfl rfl Try.underlying27 rfl ?_
     try rw [encVs_length]
     refine qC rfl rfl rfl rfl rfl <| qP rfl rfl rfl rfl <| qP rfl rfl rfl rfl <| qA rfl rfl rfl <| qN <| mwp_ret ?_
     exact ret_tmp (.inr rfl) Try.results61 rfl (.of_eq (by congr 1; rw [Bool.eq_iff_iff]; simp_all [bareF, numsK, textsK, clocksK, valuesK, Val.nv, Val.mv, Val.sv, Val.cv, Val.vv])) (.bool _) ⟨rfl, rfl⟩
    ·
     refine qS rfl <| qS rfl <| qS rfl <| qS rfl <| qS rfl <| qS rfl <| qS rfl <| qP rfl rfl rfl rfl <| qM rfl rfl rfl <| qS rfl <| qS rfl <| qS rfl <| qS rfl <| qS rfl <| qS rfl <| qS rfl <| qP rfl rfl rfl rfl <| qA rfl rfl rfl <| qN <| mwp_ret ?_
     exact ret_tmp (.inr rfl) Try.results61 rfl (.of_eq (by congr 1; rw [Bool.eq_iff_iff]; simp_all [bareF, numsK, textsK, clocksK, valuesK, Val.nv, Val.mv, Val.sv, Val.cv, Val.vv])) (.bool _) ⟨rfl, rfl⟩
   ·
    refine qS rfl <| qS rfl <| qS rfl <| qS rfl <| qS rfl <| qS rfl <| qS rfl <| qP rfl rfl rfl rfl <| qM rfl rfl rfl <| qS rfl <| qS rfl <| qS rfl <| qS rfl <| qS rfl <| qS rfl <| qS rfl <| qP rfl rfl rfl rfl <| qM rfl rfl rfl <| qS rfl <| qS rfl <| qS rfl <| qS rfl <| qS rfl <| qS rfl <| qS rfl <| qP rfl rfl rfl rfl ?_
    refine qA rfl rfl rfl <| qN <| mwp_ret ?_
    exact ret_tmp (.inr rfl) Try.results61 rfl (.of_eq (by congr 1; rw [Bool.eq_iff_iff]; simp_all [bareF, numsK, textsK, clocksK, valuesK, Val.nv, Val.mv, Val.sv, Val.cv, Val.vv])) (.bool _) ⟨rfl, rfl⟩
  ·
   refine qS rfl <| qS rfl <| qS rfl <| qS rfl <| qS rfl <| qS rfl <| qS rfl <| qP rfl rfl rfl rfl <| qM rfl rfl rfl <| qS rfl <| qS rfl <| qS rfl <| qS rfl <| qS rfl <| qS rfl <| qS rfl <| qP rfl rfl rfl rfl <| qM rfl rfl rfl <| qS rfl <| qS rfl <| qS rfl <| qS rfl <| qS rfl <| qS rfl <| qS rfl <| qP rfl rfl rfl rfl ?_
   refine qM rfl rfl rfl <| qS rfl <| qS rfl <| qS rfl <| qS rfl <| qS rfl <| qS rfl <| qS rfl <| qP rfl rfl rfl rfl <| qA rfl rfl rfl <| qN <| mwp_ret ?_
   exact ret_tmp (.inr rfl) Try.results61 rfl (.of_eq (by congr 1; rw [Bool.eq_iff_iff]; simp_all [bareF, numsK, textsK, clocksK, valuesK, Val.nv, Val.mv, Val.sv, Val.cv, Val.vv])) (.bool _) ⟨rfl, rfl⟩
 ·
  refine mcalls_body Try.func61 rfl Try.ntmps61 (Nat.le_of_ble_eq_true rfl) ?_
  refine mwp_seq <| qR rfl <| qB rfl rfl rfl rfl rfl <| qA rfl rfl rfl <| qN <| mwp_seq <| qR rfl <| qM rfl rfl rfl <| qC rfl rfl rfl rfl rfl <| qM rfl rfl rfl <| qM rfl rfl rfl <| qC rfl rfl rfl rfl rfl <| qP rfl rfl rfl rfl <| qM rfl rfl rfl <| qM rfl rfl rfl <| qC rfl rfl rfl rfl rfl <| qP rfl rfl rfl rfl <| qA rfl rfl rfl ?_
  refine qN <| mwp_seq <| qR rfl <| qM rfl rfl rfl <| qC rfl rfl rfl rfl rfl <| qM rfl rfl rfl <| qM rfl rfl rfl <| qC rfl rfl rfl rfl rfl <| qP rfl rfl rfl rfl <| qM rfl rfl rfl <| qM rfl rfl rfl <| qC rfl rfl rfl rfl rfl <| qP rfl rfl rfl rfl <| qA rfl rfl rfl <| qN <| mwp_seq <| qR rfl <| qM rfl rfl rfl ?_
  refine qC rfl rfl rfl rfl rfl <| qM rfl rfl rfl <| qM rfl rfl rfl <| qC rfl rfl rfl rfl rfl <| qP rfl rfl rfl rfl <| qA rfl rfl rfl <| qN <| mwp_seq <| qR rfl <| qM rfl rfl rfl <| qC rfl rfl rfl rfl rfl <| qM rfl rfl rfl <| qM rfl rfl rfl <| qC rfl rfl rfl rfl rfl <| qP rfl rfl rfl rfl <| qM rfl rfl rfl <| qM rfl rfl rfl ?_
  refine qC rfl rfl rfl rfl rfl <| qP rfl rfl rfl rfl <| qA rfl rfl rfl <| qN <| mwp_seq <| qR rfl <| qM rfl rfl rfl <| qM rfl rfl rfl <| qF rfl rfl rfl fo29_0 <| qL rfl rfl rfl rfl ta22 rfl <| qC rfl rfl rfl rfl rfl <| qP rfl rfl rfl rfl <| qM rfl rfl rfl ?_
  refine wOps_case (fun h51 => ?_) (fun h51 => ?_)
  ·
   refine qM rfl rfl rfl <| qC rfl rfl rfl rfl rfl <| qM rfl rfl rfl <| qF rfl rfl rfl fo29_1 <| qL rfl rfl rfl rfl ta22 rfl <| qC rfl rfl rfl rfl rfl <| qP rfl rfl rfl rfl <| qP rfl rfl rfl rfl <| qM rfl rfl rfl ?_
   refine wOps_case (fun h60 => ?_) (fun h60 => ?_)
   ·
    refine qM rfl rfl rfl <| qM rfl rfl rfl <| qF rfl rfl rfl fo29_2 <| qL rfl rfl rfl rfl ta25 rfl <| qE rfl rfl Try.underlying25 rfl <| qC rfl rfl rfl rfl rfl <| qP rfl rfl rfl rfl <| qP rfl rfl rfl rfl <| qM rfl rfl rfl ?_
    refine wOps_case (fun h69 => ?_) (fun h69 => ?_)
    ·
     refine qM rfl rfl rfl <| qM rfl rfl rfl <| qS rfl <| qS rfl <| qS rfl <| qS rfl <| qP rfl rfl rfl rfl <| qP rfl rfl rfl rfl <| qM rfl rfl rfl <| qM rfl rfl rfl <| qM rfl rfl rfl <| qS rfl <| qS rfl <| qS rfl <| qS rfl <| qP rfl rfl rfl rfl <| qP rfl rfl rfl rfl <| qA rfl rfl rfl <| qN <| mwp_ret ?_
     exact ret_tmp (.inr rfl) Try.results61 rfl (.of_eq (by congr 1; rw [Bool.eq_iff_iff]; simp_all [bareF, numsK, textsK, clocksK, valuesK, Val.nv, Val.mv, Val.sv, Val.cv, Val.vv])) (.bool _) ⟨rfl, rfl⟩
    ·
     refine qS rfl <| qS rfl <| qS rfl <| qS rfl <| qS rfl <| qS rfl <| qS rfl <| qP rfl rfl rfl rfl <| qM rfl rfl rfl <| qS rfl <| qS rfl <| qS rfl <| qS rfl <| qS rfl <| qS rfl <| qS rfl <| qP rfl rfl rfl rfl <| qA rfl rfl rfl <| qN <| mwp_ret ?_
     exact ret_tmp (.inr rfl) Try.results61 rfl (.of_eq (by congr 1; rw [Bool.eq_iff_iff]; simp_all [bareF, numsK, textsK, clocksK, valuesK, Val.nv, Val.mv, Val.sv, Val.cv, Val.vv])) (.bool _) ⟨rfl, rfl⟩
   ·
    refine qS rfl <| qS rfl <| qS rfl <| qS rfl <| qS rfl <| qS rfl <| qS rfl <| qP rfl rfl rfl rfl <| qM rfl rfl rfl <| qS rfl <| qS rfl <| qS rfl <| qS rfl <| qS rfl <| qS rfl <| qS rfl <| qP rfl rfl rfl rfl <| qM rfl rfl rfl <| qS rfl <| qS rfl <| qS rfl <| qS rfl <| qS rfl <| qS rfl <| qS rfl <| qP rfl rfl rfl rfl ?_
    refine qA rfl rfl rfl <| qN <| mwp_ret ?_
    exact ret_tmp (.inr rfl) Try.results61 rfl (.of_eq (by congr 1; rw [Bool.eq_iff_iff]; simp_all [bareF, numsK, textsK, clocksK, valuesK, Val.nv, Val.mv, Val.sv, Val.cv, Val.vv])) (.bool _) ⟨rfl, rfl⟩
  ·
   refine qS rfl <| qS rfl <| qS rfl <| qS rfl <| qS rfl <| qS rfl <| qS rfl <| qP rfl rfl rfl rfl <| qM rfl rfl rfl <| qS rfl <| qS rfl <| qS rfl <| qS rfl <| qS rfl <| qS rfl <| qS rfl <| qP rfl rfl rfl rfl <| qM rfl rfl rfl <| qS rfl <| qS rfl <| qS rfl <| qS rfl <| qS rfl <| qS rfl <| qS rfl <| qP rfl rfl rfl rfl ?_
   refine qM rfl rfl rfl <| qS rfl <| qS rfl <| qS rfl <| qS rfl <| qS rfl <| qS rfl <| qS rfl <| qP rfl rfl rfl rfl <| qA rfl rfl rfl <| qN <| mwp_ret ?_
   exact ret_tmp (.inr rfl) Try.results61 rfl (.of_eq (by congr 1; rw [Bool.eq_iff_iff]; simp_all [bareF, numsK, textsK, clocksK, valuesK, Val.nv, Val.mv, Val.sv, Val.cv, Val.vv])) (.bool _) ⟨rfl, rfl⟩
theorem is1v_spec (k k1 : Int) (i1 rest : List Sch) (f : Val → Bool) (ih : ∀ x, okV x → ∀ S : MS, MCalls Try.prog 49 [encS (.mk k1 i1), encV x] S fun v σ' => v = .bool (f x) ∧ σ' = S) (x : Val) (hx : okV x) (id : Nat) (S : MS) (hS : S[id]? = some (.cells [.int .i64 k, .lst none 2 (encSs (.mk k1 i1 :: rest))])) : MCalls Try.prog 62 [encV x, .ref id 0] S fun v σ' => v = .bool (f x) ∧ σ' = S := by
 obtain ⟨n, m, s, c, w⟩ := x
 refine mcalls_body Try.func62 rfl Try.ntmps62 (Nat.le_of_ble_eq_true rfl) ?_
 refine mwp_seq <| qR rfl <| qB rfl rfl rfl rfl rfl <| qA rfl rfl rfl <| qN <| mwp_seq ?_
 refine mwp_draw [] [_] mo (by decide) rfl rfl rfl rfl ?_
 refine dO rfl rfl rfl (op_fieldAddr_ref rfl rfl fo36_1 ⟨rfl, rfl⟩) <| dO rfl rfl rfl (op_load_far rfl rfl hS ta34 rfl ⟨rfl, rfl⟩) <| dO rfl rfl rfl (op_indexAddr rfl Try.underlying34 sz36 (by decide) rfl rfl rfl (show _ = some (encS (.mk k1 i1)) from rfl) ⟨rfl, rfl⟩) ?_
 refine dO rfl rfl rfl (op_load_sptr rfl rfl ta36 rfl ⟨rfl, rfl⟩) <| dO rfl rfl rfl (op_load' rfl rfl rfl ta29 rfl ⟨rfl, rfl⟩) <| dOps_op rfl rfl (.cons (op_call rfl rfl rfl co49 (ih (.mk n m s c w) hx _)) .nil) <| dO rfl rfl rfl (op_assign rfl rfl ⟨rfl, rfl⟩) <| dOps_nil <| mwp_ret ?_
 exact ret_tmp (.inr rfl) Try.results62 rfl (.of_eq (rfl)) (.bool _) ⟨rfl, rfl⟩
theorem is2v_spec (k k1 : Int) (i1 rest : List Sch) (f : Val → Bool) (ih : ∀ x, okV x → ∀ S : MS, MCalls Try.prog 49 [encS (.mk k1 i1), encV x] S fun v σ' => v = .bool (f x) ∧ σ' = S) (x : Val) (hx : okV x) (ida ids : Nat) (S : MS) (hA : S[ida]? = some (.cells [.fn (.func 62) [] [.ref ids 0]])) (hS : S[ids]? = some (.cells [.int .i64 k, .lst none 2 (encSs (.mk k1 i1 :: rest))])) : MCalls Try.prog 65 [encV x, .ref ida 0, .ref ids 0] S fun v σ' => v = .bool (!f x || noneF (.mk k1 i1) x) ∧ σ' = S := by
 obtain ⟨n, m, s, c, w⟩ := x
 refine mcalls_body Try.func65 rfl Try.ntmps65 (Nat.le_of_ble_eq_true rfl) ?_
 refine mwp_seq <| qR rfl <| qB rfl rfl rfl rfl rfl <| qA rfl rfl rfl <| qN <| mwp_seq ?_
 refine mwp_draw [] [_] mo (by decide) rfl rfl rfl rfl ?_
 refine dOps_op rfl rfl (.cons (op_load_far rfl rfl hA ta126 rfl ⟨rfl, rfl⟩) .nil) ?_
 refine dO rfl rfl rfl (op_load' rfl rfl rfl ta29 rfl ⟨rfl, rfl⟩) <| dOps_op rfl rfl (.cons (op_call rfl rfl rfl co62 (is1v_spec k k1 i1 rest f ih (.mk n m s c w) hx ids _ (get_app hS))) .nil) <| dO rfl rfl rfl (op_not rfl rfl ⟨rfl, rfl⟩) <| dO rfl rfl rfl (op_move rfl rfl ⟨rfl, rfl⟩) ?_
 refine dOps_case (fun h9 => ?_) (fun h9 => ?_)
 ·
  refine dS rfl rfl <| dS rfl rfl <| dS rfl rfl <| dS rfl rfl <| dS rfl rfl <| dS rfl rfl <| dO rfl rfl rfl (op_pick rfl rfl rfl ⟨rfl, rfl⟩) <| dO rfl rfl rfl (op_assign rfl rfl ⟨rfl, rfl⟩) <| dOps_nil <| mwp_ret ?_
  exact ret_tmp (.inr rfl) Try.results65 rfl (.of_eq (by simp_all)) (.bool _) ⟨rfl, rfl⟩
 ·
  refine dO rfl rfl rfl (op_fieldAddr_ref rfl rfl fo36_1 ⟨rfl, rfl⟩) <| dO rfl rfl rfl (op_load_far rfl rfl hS ta34 rfl ⟨rfl, rfl⟩) <| dO rfl rfl rfl (op_indexAddr rfl Try.underlying34 sz36 (by decide) rfl rfl rfl (show _ = some (encS (.mk k1 i1)) from rfl) ⟨rfl, rfl⟩) ?_
  refine dO rfl rfl rfl (op_load_sptr rfl rfl ta36 rfl ⟨rfl, rfl⟩) <| dO rfl rfl rfl (op_load' rfl rfl rfl ta29 rfl ⟨rfl, rfl⟩) <| dOps_op rfl rfl (.cons (op_call rfl rfl rfl co66 (None_spec (.mk k1 i1) (.mk n m s c w) _)) .nil) <| dO rfl rfl rfl (op_pick rfl rfl rfl ⟨rfl, rfl⟩) <| dO rfl rfl rfl (op_assign rfl rfl ⟨rfl, rfl⟩) <| dOps_nil <| mwp_ret ?_
  exact ret_tmp (.inr rfl) Try.results65 rfl (.of_eq (by simp_all)) (.bool _) ⟨rfl, rfl⟩
theorem is3v_spec (k k1 : Int) (i1 rest : List Sch) (f : Val → Bool) (ih : ∀ x, okV x → ∀ S : MS, MCalls Try.prog 49 [encS (.mk k1 i1), encV x] S fun v σ' => v = .bool (f x) ∧ σ' = S) (x : Val) (hx : okV x) (ida ids : Nat) (S : MS) (hA : S[ida]? = some (.cells [.fn (.func 62) [] [.ref ids 0]])) (hS : S[ids]? = some (.cells [.int .i64 k, .lst none 2 (encSs (.mk k1 i1 :: rest))])) : MCalls Try.prog 70 [encV x, .ref ida 0] S fun v σ' => v = .bool (!f x) ∧ σ' = S := by
 obtain ⟨n, m, s, c, w⟩ := x
 refine mcalls_body Try.func70 rfl Try.ntmps70 (Nat.le_of_ble_eq_true rfl) ?_
 refine mwp_seq <| qR rfl <| qB rfl rfl rfl rfl rfl <| qA rfl rfl rfl <| qN <| mwp_seq <| qR rfl <| qO rfl <| op_load_far rfl rfl hA ta126 rfl <| qL rfl rfl rfl rfl ta29 rfl ?_
 refine wOps_op rfl (op_call rfl rfl rfl co62 ((is1v_spec k k1 i1 rest f ih (.mk n m s c w) hx ids _ (get_app hS)).mono ?_))
 rintro _ _ ⟨rfl, rfl⟩
 refine qO rfl <| op_not rfl rfl <| qA rfl rfl rfl <| qN <| mwp_ret ?_
 exact ret_tmp (.inr rfl) Try.results70 rfl (.of_eq (rfl)) (.bool _) ⟨rfl, rfl⟩
theorem isV_spec (d : Nat) : ∀ (s : Sch), isF d s = true → ∀ x : Val, okV x → ∀ S : MS, MCalls Try.prog 49 [encS s, encV x] S fun v σ' => v = .bool (isVF s x) ∧ σ' = S := by
 induction d with
 | zero => intro s h; simp [isF] at h
 | succ d ih =>
 rintro ⟨k, ins⟩ hd ⟨n, m, s, c, w⟩ hv S
 rw [isF] at hd
 simp only [Bool.and_eq_true, List.all_eq_true, beq_iff_eq] at hd
 simp only [okV] at hv
 have hvs := okVs_iff.1 hv.2.2.2
 rcases k8_of hd.1 with rfl | rfl | rfl | rfl | rfl | rfl | rfl | rfl
 ·
  refine mcalls_body Try.func49 rfl Try.ntmps49 (Nat.le_of_ble_eq_true rfl) ?_
  refine mwp_seq <| qR rfl <| qB rfl rfl rfl rfl rfl <| qB rfl rfl rfl rfl rfl <| qA rfl rfl rfl <| qN <| mwp_seq <| mwp_seq <| qR rfl <| qF rfl rfl rfl fo36_0 <| qL rfl rfl rfl rfl ta3 rfl <| qL rfl rfl rfl rfl ta29 rfl ?_
  refine wOps_op rfl (op_call rfl rfl rfl co61 ((bare_spec 1 (by omega) n m s c w _).mono ?_))
  rintro _ _ ⟨rfl, rfl⟩
  refine qO rfl <| op_not rfl rfl <| qM rfl rfl rfl ?_
  refine wOps_case (fun h11 => ?_) (fun h11 => ?_)
  ·
   refine qS rfl <| qS rfl <| qS rfl <| qS rfl <| qP rfl rfl rfl rfl <| qM rfl rfl rfl <| qS rfl <| qS rfl <| qS rfl <| qS rfl <| qP rfl rfl rfl rfl <| qN <| mwp_cond_t rfl (rfl) <| mwp_seq <| qR rfl <| qA rfl rfl rfl <| qN <| mwp_ret ?_
   exact ret_tmp (.inr rfl) Try.results49 rfl (.of_eq (by rw [isVF_mk 1]; congr 1; symm; first | (rw [show bareF 1 _ = false by simpa using h11]; rfl) | (rw [w40f]; simp; done) | (rw [c40f]; simp; done))) (.bool _) ⟨rfl, rfl⟩
  ·
   refine qF rfl rfl rfl fo29_4 <| qL rfl rfl rfl rfl ta27 rfl <| qE rfl rfl Try.underlying27 rfl <| qC rfl rfl rfl rfl rfl <| qP rfl rfl rfl rfl <| qM rfl rfl rfl ?_
   refine wOps_case (fun h17 => ?_) (fun h17 => ?_)
   ·
    have w40f := decide_eq_false (by rw [encVs_length] at h17; simp at h17; omega : ¬ w.length ≤ 40)
    refine qS rfl <| qS rfl <| qS rfl <| qS rfl <| qP rfl rfl rfl rfl <| qN <| mwp_cond_t rfl (rfl) <| mwp_seq <| qR rfl <| qA rfl rfl rfl <| qN <| mwp_ret ?_
    exact ret_tmp (.inr rfl) Try.results49 rfl (.of_eq (by rw [isVF_mk 1]; congr 1; symm; first | (rw [show bareF 1 _ = false by simpa using h11]; rfl) | (rw [w40f]; simp; done) | (rw [c40f]; simp; done))) (.bool _) ⟨rfl, rfl⟩
   ·
    have w40t := decide_eq_true (by rw [encVs_length] at h17; simp at h17; omega : w.length ≤ 40)
    refine qF rfl rfl rfl fo29_3 <| qL rfl rfl rfl rfl ta26 rfl <| qE rfl rfl Try.underlying26 rfl <| qC rfl rfl rfl rfl rfl <| qP rfl rfl rfl rfl <| qN ?_
    refine mwp_cond_split rfl (fun h22 => ?_) (fun h22 => ?_)
    ·
     have c40f := decide_eq_false (by rw [List.length_map] at h22; simp at h22; omega : ¬ c.length ≤ 40)
     refine mwp_seq <| qR rfl <| qA rfl rfl rfl <| qN <| mwp_ret ?_
     exact ret_tmp (.inr rfl) Try.results49 rfl (.of_eq (by rw [isVF_mk 1]; congr 1; symm; first | (rw [show bareF 1 _ = false by simpa using h11]; rfl) | (rw [w40f]; simp; done) | (rw [c40f]; simp; done))) (.bool _) ⟨rfl, rfl⟩
    ·
     have c40t := decide_eq_true (by rw [List.length_map] at h22; simp at h22; omega : c.length ≤ 40)
     refine mwp_skip <| mwp_seq <| qR rfl <| qO rfl <| op_makeFunc rfl rfl rfl <| qO rfl <| op_alloc' rfl zm126 rfl rfl <| qO rfl <| op_store' rfl rfl rfl rfl sz126 rfl rfl (Nat.le_of_ble_eq_true rfl) rfl <| qN <| mwp_seq <| mwp_seq <| qR rfl <| qF rfl rfl rfl fo36_0 <| qL rfl rfl rfl rfl ta3 rfl <| qN <| mwp_block <| mwp_seq <| qR rfl <| qC rfl rfl rfl rfl rfl <| qA rfl rfl rfl <| qN <| mwp_cond_t rfl (rfl) <| mwp_seq <| qR rfl <| qA rfl rfl rfl ?_
     refine qN <| mwp_ret ?_
     exact ret_tmp (.inr rfl) Try.results49 rfl (.of_eq (by rw [isVF_mk 1]; rw [show bareF 1 _ = true by simpa using h11, w40t, c40t]; simp only [Bool.true_and, isVL, List.headD_cons, List.tail_cons]; rfl)) (.bool _) ⟨rfl, rfl⟩
 ·
  refine mcalls_body Try.func49 rfl Try.ntmps49 (Nat.le_of_ble_eq_true rfl) ?_
  refine mwp_seq <| qR rfl <| qB rfl rfl rfl rfl rfl <| qB rfl rfl rfl rfl rfl <| qA rfl rfl rfl <| qN <| mwp_seq <| mwp_seq <| qR rfl <| qF rfl rfl rfl fo36_0 <| qL rfl rfl rfl rfl ta3 rfl <| qL rfl rfl rfl rfl ta29 rfl ?_
  refine wOps_op rfl (op_call rfl rfl rfl co61 ((bare_spec 2 (by omega) n m s c w _).mono ?_))
  rintro _ _ ⟨rfl, rfl⟩
  refine qO rfl <| op_not rfl rfl <| qM rfl rfl rfl ?_
  refine wOps_case (fun h11 => ?_) (fun h11 => ?_)
  ·
   refine qS rfl <| qS rfl <| qS rfl <| qS rfl <| qP rfl rfl rfl rfl <| qM rfl rfl rfl <| qS rfl <| qS rfl <| qS rfl <| qS rfl <| qP rfl rfl rfl rfl <| qN <| mwp_cond_t rfl (rfl) <| mwp_seq <| qR rfl <| qA rfl rfl rfl <| qN <| mwp_ret ?_
   exact ret_tmp (.inr rfl) Try.results49 rfl (.of_eq (by rw [isVF_mk 2]; congr 1; symm; first | (rw [show bareF 2 _ = false by simpa using h11]; rfl) | (rw [w40f]; simp; done) | (rw [c40f]; simp; done))) (.bool _) ⟨rfl, rfl⟩
  ·
   refine qF rfl rfl rfl fo29_4 <| qL rfl rfl rfl rfl ta27 rfl <| qE rfl rfl Try.underlying27 rfl <| qC rfl rfl rfl rfl rfl <| qP rfl rfl rfl rfl <| qM rfl rfl rfl ?_
   refine wOps_case (fun h17 => ?_) (fun h17 => ?_)
   ·
    have w40f := decide_eq_false (by rw [encVs_length] at h17; simp at h17; omega : ¬ w.length ≤ 40)
    refine qS rfl <| qS rfl <| qS rfl <| qS rfl <| qP rfl rfl rfl rfl <| qN <| mwp_cond_t rfl (rfl) <| mwp_seq <| qR rfl <| qA rfl rfl rfl <| qN <| mwp_ret ?_
    exact ret_tmp (.inr rfl) Try.results49 rfl (.of_eq (by rw [isVF_mk 2]; congr 1; symm; first | (rw [show bareF 2 _ = false by simpa using h11]; rfl) | (rw [w40f]; simp; done) | (rw [c40f]; simp; done))) (.bool _) ⟨rfl, rfl⟩
   ·
    have w40t := decide_eq_true (by rw [encVs_length] at h17; simp at h17; omega : w.length ≤ 40)
    refine qF rfl rfl rfl fo29_3 <| qL rfl rfl rfl rfl ta26 rfl <| qE rfl rfl Try.underlying26 rfl <| qC rfl rfl rfl rfl rfl <| qP rfl rfl rfl rfl <| qN ?_
    refine mwp_cond_split rfl (fun h22 => ?_) (fun h22 => ?_)
    ·
     have c40f := decide_eq_false (by rw [List.length_map] at h22; simp at h22; omega : ¬ c.length ≤ 40)
     refine mwp_seq <| qR rfl <| qA rfl rfl rfl <| qN <| mwp_ret ?_
     exact ret_tmp (.inr rfl) Try.results49 rfl (.of_eq (by rw [isVF_mk 2]; congr 1; symm; first | (rw [show bareF 2 _ = false by simpa using h11]; rfl) | (rw [w40f]; simp; done) | (rw [c40f]; simp; done))) (.bool _) ⟨rfl, rfl⟩
    ·
     have c40t := decide_eq_true (by rw [List.length_map] at h22; simp at h22; omega : c.length ≤ 40)
     refine mwp_skip <| mwp_seq <| qR rfl <| qO rfl <| op_makeFunc rfl rfl rfl <| qO rfl <| op_alloc' rfl zm126 rfl rfl <| qO rfl <| op_store' rfl rfl rfl rfl sz126 rfl rfl (Nat.le_of_ble_eq_true rfl) rfl <| qN <| mwp_seq <| mwp_seq <| qR rfl <| qF rfl rfl rfl fo36_0 <| qL rfl rfl rfl rfl ta3 rfl <| qN <| mwp_block <| mwp_seq <| qR rfl <| qC rfl rfl rfl rfl rfl <| qA rfl rfl rfl <| qN <| mwp_cond_f rfl (rfl) <| mwp_seq <| qR rfl <| qC rfl rfl rfl rfl rfl ?_
     refine qA rfl rfl rfl <| qN <| mwp_cond_t rfl (rfl) <| mwp_seq <| qR rfl <| qF rfl rfl rfl fo29_0 <| qL rfl rfl rfl rfl ta22 rfl <| qC rfl rfl rfl rfl rfl <| qA rfl rfl rfl <| qN <| mwp_ret ?_
     exact ret_tmp (.inr rfl) Try.results49 rfl (.of_eq (by rw [isVF_mk 2]; rw [show bareF 2 _ = true by simpa using h11, w40t, c40t]; simp only [Bool.true_and, isVL, List.headD_cons, List.tail_cons]; rfl)) (.bool _) ⟨rfl, rfl⟩
 ·
  refine mcalls_body Try.func49 rfl Try.ntmps49 (Nat.le_of_ble_eq_true rfl) ?_
  refine mwp_seq <| qR rfl <| qB rfl rfl rfl rfl rfl <| qB rfl rfl rfl rfl rfl <| qA rfl rfl rfl <| qN <| mwp_seq <| mwp_seq <| qR rfl <| qF rfl rfl rfl fo36_0 <| qL rfl rfl rfl rfl ta3 rfl <| qL rfl rfl rfl rfl ta29 rfl ?_
  refine wOps_op rfl (op_call rfl rfl rfl co61 ((bare_spec 3 (by omega) n m s c w _).mono ?_))
  rintro _ _ ⟨rfl, rfl⟩
  refine qO rfl <| op_not rfl rfl <| qM rfl rfl rfl ?_
  refine wOps_case (fun h11 => ?_) (fun h11 => ?_)
  ·
   refine qS rfl <| qS rfl <| qS rfl <| qS rfl <| qP rfl rfl rfl rfl <| qM rfl rfl rfl <| qS rfl <| qS rfl <| qS rfl <| qS rfl <| qP rfl rfl rfl rfl <| qN <| mwp_cond_t rfl (rfl) <| mwp_seq <| qR rfl <| qA rfl rfl rfl <| qN <| mwp_ret ?_
   exact ret_tmp (.inr rfl) Try.results49 rfl (.of_eq (by rw [isVF_mk 3]; congr 1; symm; first | (rw [show bareF 3 _ = false by simpa using h11]; rfl) | (rw [w40f]; simp; done) | (rw [c40f]; simp; done))) (.bool _) ⟨rfl, rfl⟩
  ·
   refine qF rfl rfl rfl fo29_4 <| qL rfl rfl rfl rfl ta27 rfl <| qE rfl rfl Try.underlying27 rfl <| qC rfl rfl rfl rfl rfl <| qP rfl rfl rfl rfl <| qM rfl rfl rfl ?_
   refine wOps_case (fun h17 => ?_) (fun h17 => ?_)
   ·
    have w40f := decide_eq_false (by rw [encVs_length] at h17; simp at h17; omega : ¬ w.length ≤ 40)
    refine qS rfl <| qS rfl <| qS rfl <| qS rfl <| qP rfl rfl rfl rfl <| qN <| mwp_cond_t rfl (rfl) <| mwp_seq <| qR rfl <| qA rfl rfl rfl <| qN <| mwp_ret ?_
    exact ret_tmp (.inr rfl) Try.results49 rfl (.of_eq (by rw [isVF_mk 3]; congr 1; symm; first | (rw [show bareF 3 _ = false by simpa using h11]; rfl) | (rw [w40f]; simp; done) | (rw [c40f]; simp; done))) (.bool _) ⟨rfl, rfl⟩
   ·
    have w40t := decide_eq_true (by rw [encVs_length] at h17; simp at h17; omega : w.length ≤ 40)
    refine qF rfl rfl rfl fo29_3 <| qL rfl rfl rfl rfl ta26 rfl <| qE rfl rfl Try.underlying26 rfl <| qC rfl rfl rfl rfl rfl <| qP rfl rfl rfl rfl <| qN ?_
    refine mwp_cond_split rfl (fun h22 => ?_) (fun h22 => ?_)
    ·
     have c40f := decide_eq_false (by rw [List.length_map] at h22; simp at h22; omega : ¬ c.length ≤ 40)
     refine mwp_seq <| qR rfl <| qA rfl rfl rfl <| qN <| mwp_ret ?_
     exact ret_tmp (.inr rfl) Try.results49 rfl (.of_eq (by rw [isVF_mk 3]; congr 1; symm; first | (rw [show bareF 3 _ = false by simpa using h11]; rfl) | (rw [w40f]; simp; done) | (rw [c40f]; simp; done))) (.bool _) ⟨rfl, rfl⟩
    ·
     have c40t := decide_eq_true (by rw [List.length_map] at h22; simp at h22; omega : c.length ≤ 40)
     refine mwp_skip <| mwp_seq <| qR rfl <| qO rfl <| op_makeFunc rfl rfl rfl <| qO rfl <| op_alloc' rfl zm126 rfl rfl <| qO rfl <| op_store' rfl rfl rfl rfl sz126 rfl rfl (Nat.le_of_ble_eq_true rfl) rfl <| qN <| mwp_seq <| mwp_seq <| qR rfl <| qF rfl rfl rfl fo36_0 <| qL rfl rfl rfl rfl ta3 rfl <| qN <| mwp_block <| mwp_seq <| qR rfl <| qC rfl rfl rfl rfl rfl <| qA rfl rfl rfl <| qN <| mwp_cond_f rfl (rfl) <| mwp_seq <| qR rfl <| qC rfl rfl rfl rfl rfl ?_
     refine qA rfl rfl rfl <| qN <| mwp_cond_f rfl (rfl) <| mwp_seq <| qR rfl <| qC rfl rfl rfl rfl rfl <| qA rfl rfl rfl <| qN <| mwp_cond_t rfl (rfl) <| mwp_seq <| qR rfl <| qF rfl rfl rfl fo29_2 <| qL rfl rfl rfl rfl ta25 rfl ?_
     refine wOps_op rfl (op_call rfl rfl rfl co63 ((isRow_spec s _).mono ?_))
     rintro _ _ ⟨rfl, rfl⟩
     refine qA rfl rfl rfl <| qN <| mwp_ret ?_
     exact ret_tmp (.inr rfl) Try.results49 rfl (.of_eq (by rw [isVF_mk 3]; rw [show bareF 3 _ = true by simpa using h11, w40t, c40t]; simp only [Bool.true_and, isVL, List.headD_cons, List.tail_cons]; rfl)) (.bool _) ⟨rfl, rfl⟩
 ·
  obtain ⟨⟨k1, i1⟩, rfl⟩ := one_ins hd.1 (by decide)
  have ih1 := ih (.mk k1 i1) (hd.2 _ (by simp))
  refine mcalls_body Try.func49 rfl Try.ntmps49 (Nat.le_of_ble_eq_true rfl) ?_
  refine mwp_seq <| qR rfl <| qB rfl rfl rfl rfl rfl <| qB rfl rfl rfl rfl rfl <| qA rfl rfl rfl <| qN <| mwp_seq <| mwp_seq <| qR rfl <| qF rfl rfl rfl fo36_0 <| qL rfl rfl rfl rfl ta3 rfl <| qL rfl rfl rfl rfl ta29 rfl ?_
  refine wOps_op rfl (op_call rfl rfl rfl co61 ((bare_spec 4 (by omega) n m s c w _).mono ?_))
  rintro _ _ ⟨rfl, rfl⟩
  refine qO rfl <| op_not rfl rfl <| qM rfl rfl rfl ?_
  refine wOps_case (fun h11 => ?_) (fun h11 => ?_)
  ·
   refine qS rfl <| qS rfl <| qS rfl <| qS rfl <| qP rfl rfl rfl rfl <| qM rfl rfl rfl <| qS rfl <| qS rfl <| qS rfl <| qS rfl <| qP rfl rfl rfl rfl <| qN <| mwp_cond_t rfl (rfl) <| mwp_seq <| qR rfl <| qA rfl rfl rfl <| qN <| mwp_ret ?_
   exact ret_tmp (.inr rfl) Try.results49 rfl (.of_eq (by rw [isVF_mk 4]; congr 1; symm; first | (rw [show bareF 4 _ = false by simpa using h11]; rfl) | (rw [w40f]; simp; done) | (rw [c40f]; simp; done))) (.bool _) ⟨rfl, rfl⟩
  ·
   refine qF rfl rfl rfl fo29_4 <| qL rfl rfl rfl rfl ta27 rfl <| qE rfl rfl Try.underlying27 rfl <| qC rfl rfl rfl rfl rfl <| qP rfl rfl rfl rfl <| qM rfl rfl rfl ?_
   refine wOps_case (fun h17 => ?_) (fun h17 => ?_)
   ·
    have w40f := decide_eq_false (by rw [encVs_length] at h17; simp at h17; omega : ¬ w.length ≤ 40)
    refine qS rfl <| qS rfl <| qS rfl <| qS rfl <| qP rfl rfl rfl rfl <| qN <| mwp_cond_t rfl (rfl) <| mwp_seq <| qR rfl <| qA rfl rfl rfl <| qN <| mwp_ret ?_
    exact ret_tmp (.inr rfl) Try.results49 rfl (.of_eq (by rw [isVF_mk 4]; congr 1; symm; first | (rw [show bareF 4 _ = false by simpa using h11]; rfl) | (rw [w40f]; simp; done) | (rw [c40f]; simp; done))) (.bool _) ⟨rfl, rfl⟩
   ·
    have w40t := decide_eq_true (by rw [encVs_length] at h17; simp at h17; omega : w.length ≤ 40)
    refine qF rfl rfl rfl fo29_3 <| qL rfl rfl rfl rfl ta26 rfl <| qE rfl rfl Try.underlying26 rfl <| qC rfl rfl rfl rfl rfl <| qP rfl rfl rfl rfl <| qN ?_
    refine mwp_cond_split rfl (fun h22 => ?_) (fun h22 => ?_)
    ·
     have c40f := decide_eq_false (by rw [List.length_map] at h22; simp at h22; omega : ¬ c.length ≤ 40)
     refine mwp_seq <| qR rfl <| qA rfl rfl rfl <| qN <| mwp_ret ?_
     exact ret_tmp (.inr rfl) Try.results49 rfl (.of_eq (by rw [isVF_mk 4]; congr 1; symm; first | (rw [show bareF 4 _ = false by simpa using h11]; rfl) | (rw [w40f]; simp; done) | (rw [c40f]; simp; done))) (.bool _) ⟨rfl, rfl⟩
    ·
     have c40t := decide_eq_true (by rw [List.length_map] at h22; simp at h22; omega : c.length ≤ 40)
     refine mwp_skip <| mwp_seq <| qR rfl <| qO rfl <| op_makeFunc rfl rfl rfl <| qO rfl <| op_alloc' rfl zm126 rfl rfl <| qO rfl <| op_store' rfl rfl rfl rfl sz126 rfl rfl (Nat.le_of_ble_eq_true rfl) rfl <| qN <| mwp_seq <| mwp_seq <| qR rfl <| qF rfl rfl rfl fo36_0 <| qL rfl rfl rfl rfl ta3 rfl <| qN <| mwp_block <| mwp_seq <| qR rfl <| qC rfl rfl rfl rfl rfl <| qA rfl rfl rfl <| qN <| mwp_cond_f rfl (rfl) <| mwp_seq <| qR rfl <| qC rfl rfl rfl rfl rfl ?_
     refine qA rfl rfl rfl <| qN <| mwp_cond_f rfl (rfl) <| mwp_seq <| qR rfl <| qC rfl rfl rfl rfl rfl <| qA rfl rfl rfl <| qN <| mwp_cond_f rfl (rfl) <| mwp_seq <| qR rfl <| qC rfl rfl rfl rfl rfl <| qA rfl rfl rfl <| qN <| mwp_cond_t rfl (rfl) <| mwp_seq <| qR rfl <| qF rfl rfl rfl fo29_2 <| qL rfl rfl rfl rfl ta25 rfl ?_
     refine wOps_op rfl (op_call rfl rfl rfl co63 ((isRow_spec s _).mono ?_))
     rintro _ _ ⟨rfl, rfl⟩
     refine qM rfl rfl rfl ?_
     refine wOps_case (fun h43 => ?_) (fun h43 => ?_)
     ·
      refine qF rfl rfl rfl fo29_2 <| qL rfl rfl rfl rfl ta25 rfl <| qE rfl rfl Try.underlying25 rfl <| qF rfl rfl rfl fo29_4 <| qL rfl rfl rfl rfl ta27 rfl <| qE rfl rfl Try.underlying27 rfl <| qC rfl rfl rfl rfl rfl <| qP rfl rfl rfl rfl <| qM rfl rfl rfl ?_
      refine wOps_case (fun h52 => ?_) (fun h52 => ?_)
      ·
       have hsl : s.length = w.length := by rw [List.length_map, encVs_length] at h52; simp at h52; omega
       refine qF rfl rfl rfl fo29_4 <| qL rfl rfl rfl rfl ta27 rfl <| qO rfl <| op_makeFunc rfl rfl rfl ?_
       refine wOps_op rfl (op_call rfl rfl rfl co64 ((vContains_spec _ w (fun x => !isVF (.mk k1 i1) x || noneF (.mk k1 i1) x) _ [] [.ref (S.length + 2) 0, .ref (S.length + 0) 0] co65 (fun x hx X => is2v_spec 4 k1 i1 [] (isVF (.mk k1 i1)) ih1 x (hvs x hx) _ _ _ (get_mid_ (k := 2) rfl) (get_mid_ (k := 0) rfl))).mono ?_))
       rintro _ _ ⟨rfl, rfl⟩
       refine qO rfl <| op_not rfl rfl <| qP rfl rfl rfl rfl <| qA rfl rfl rfl <| qN <| mwp_ret ?_
       exact ret_tmp (.inr rfl) Try.results49 rfl (.of_eq (by rw [isVF_mk 4]; rw [show bareF 4 _ = true by simpa using h11, w40t, c40t]; simp only [Bool.true_and, isVL, List.headD_cons, List.tail_cons]; congr 1; rw [Bool.eq_iff_iff]; simp_all [encVs_length, any_all])) (.bool _) ⟨rfl, rfl⟩
      ·
       have hsl : ¬ s.length = w.length := by rw [List.length_map, encVs_length] at h52; simp at h52; omega
       refine qS rfl <| qS rfl <| qS rfl <| qS rfl <| qS rfl <| qP rfl rfl rfl rfl <| qA rfl rfl rfl <| qN <| mwp_ret ?_
       exact ret_tmp (.inr rfl) Try.results49 rfl (.of_eq (by rw [isVF_mk 4]; rw [show bareF 4 _ = true by simpa using h11, w40t, c40t]; simp only [Bool.true_and, isVL, List.headD_cons, List.tail_cons]; congr 1; rw [Bool.eq_iff_iff]; simp_all [encVs_length, any_all])) (.bool _) ⟨rfl, rfl⟩
     ·
      refine qS rfl <| qS rfl <| qS rfl <| qS rfl <| qS rfl <| qS rfl <| qS rfl <| qP rfl rfl rfl rfl <| qM rfl rfl rfl <| qS rfl <| qS rfl <| qS rfl <| qS rfl <| qS rfl <| qP rfl rfl rfl rfl <| qA rfl rfl rfl <| qN <| mwp_ret ?_
      exact ret_tmp (.inr rfl) Try.results49 rfl (.of_eq (by rw [isVF_mk 4]; rw [show bareF 4 _ = true by simpa using h11, w40t, c40t]; simp only [Bool.true_and, isVL, List.headD_cons, List.tail_cons]; congr 1; rw [Bool.eq_iff_iff]; simp_all [encVs_length, any_all])) (.bool _) ⟨rfl, rfl⟩
 ·
  obtain ⟨⟨k1, i1⟩, ⟨k2, i2⟩, rfl⟩ := two_of hd.1
  have ih1 := ih (.mk k1 i1) (hd.2 _ (by simp))
  have ih2 := ih (.mk k2 i2) (hd.2 _ (by simp))
  refine mcalls_body Try.func49 rfl Try.ntmps49 (Nat.le_of_ble_eq_true rfl) ?_
  refine mwp_seq <| qR rfl <| qB rfl rfl rfl rfl rfl <| qB rfl rfl rfl rfl rfl <| qA rfl rfl rfl <| qN <| mwp_seq <| mwp_seq <| qR rfl <| qF rfl rfl rfl fo36_0 <| qL rfl rfl rfl rfl ta3 rfl <| qL rfl rfl rfl rfl ta29 rfl ?_
  refine wOps_op rfl (op_call rfl rfl rfl co61 ((bare_spec 5 (by omega) n m s c w _).mono ?_))
  rintro _ _ ⟨rfl, rfl⟩
  refine qO rfl <| op_not rfl rfl <| qM rfl rfl rfl ?_
  refine wOps_case (fun h11 => ?_) (fun h11 => ?_)
  ·
   refine qS rfl <| qS rfl <| qS rfl <| qS rfl <| qP rfl rfl rfl rfl <| qM rfl rfl rfl <| qS rfl <| qS rfl <| qS rfl <| qS rfl <| qP rfl rfl rfl rfl <| qN <| mwp_cond_t rfl (rfl) <| mwp_seq <| qR rfl <| qA rfl rfl rfl <| qN <| mwp_ret ?_
   exact ret_tmp (.inr rfl) Try.results49 rfl (.of_eq (by rw [isVF_mk 5]; congr 1; symm; first | (rw [show bareF 5 _ = false by simpa using h11]; rfl) | (rw [w40f]; simp; done) | (rw [c40f]; simp; done))) (.bool _) ⟨rfl, rfl⟩
  ·
   refine qF rfl rfl rfl fo29_4 <| qL rfl rfl rfl rfl ta27 rfl <| qE rfl rfl Try.underlying27 rfl <| qC rfl rfl rfl rfl rfl <| qP rfl rfl rfl rfl <| qM rfl rfl rfl ?_
   refine wOps_case (fun h17 => ?_) (fun h17 => ?_)
   ·
    have w40f := decide_eq_false (by rw [encVs_length] at h17; simp at h17; omega : ¬ w.length ≤ 40)
    refine qS rfl <| qS rfl <| qS rfl <| qS rfl <| qP rfl rfl rfl rfl <| qN <| mwp_cond_t rfl (rfl) <| mwp_seq <| qR rfl <| qA rfl rfl rfl <| qN <| mwp_ret ?_
    exact ret_tmp (.inr rfl) Try.results49 rfl (.of_eq (by rw [isVF_mk 5]; congr 1; symm; first | (rw [show bareF 5 _ = false by simpa using h11]; rfl) | (rw [w40f]; simp; done) | (rw [c40f]; simp; done))) (.bool _) ⟨rfl, rfl⟩
   ·
    have w40t := decide_eq_true (by rw [encVs_length] at h17; simp at h17; omega : w.length ≤ 40)
    refine qF rfl rfl rfl fo29_3 <| qL rfl rfl rfl rfl ta26 rfl <| qE rfl rfl Try.underlying26 rfl <| qC rfl rfl rfl rfl rfl <| qP rfl rfl rfl rfl <| qN ?_
    refine mwp_cond_split rfl (fun h22 => ?_) (fun h22 => ?_)
    ·
     have c40f := decide_eq_false (by rw [List.length_map] at h22; simp at h22; omega : ¬ c.length ≤ 40)
     refine mwp_seq <| qR rfl <| qA rfl rfl rfl <| qN <| mwp_ret ?_
     exact ret_tmp (.inr rfl) Try.results49 rfl (.of_eq (by rw [isVF_mk 5]; congr 1; symm; first | (rw [show bareF 5 _ = false by simpa using h11]; rfl) | (rw [w40f]; simp; done) | (rw [c40f]; simp; done))) (.bool _) ⟨rfl, rfl⟩
    ·
     have c40t := decide_eq_true (by rw [List.length_map] at h22; simp at h22; omega : c.length ≤ 40)
     refine mwp_skip <| mwp_seq <| qR rfl <| qO rfl <| op_makeFunc rfl rfl rfl <| qO rfl <| op_alloc' rfl zm126 rfl rfl <| qO rfl <| op_store' rfl rfl rfl rfl sz126 rfl rfl (Nat.le_of_ble_eq_true rfl) rfl <| qN <| mwp_seq <| mwp_seq <| qR rfl <| qF rfl rfl rfl fo36_0 <| qL rfl rfl rfl rfl ta3 rfl <| qN <| mwp_block <| mwp_seq <| qR rfl <| qC rfl rfl rfl rfl rfl <| qA rfl rfl rfl <| qN <| mwp_cond_f rfl (rfl) <| mwp_seq <| qR rfl <| qC rfl rfl rfl rfl rfl ?_
     refine qA rfl rfl rfl <| qN <| mwp_cond_f rfl (rfl) <| mwp_seq <| qR rfl <| qC rfl rfl rfl rfl rfl <| qA rfl rfl rfl <| qN <| mwp_cond_f rfl (rfl) <| mwp_seq <| qR rfl <| qC rfl rfl rfl rfl rfl <| qA rfl rfl rfl <| qN <| mwp_cond_f rfl (rfl) <| mwp_seq <| qR rfl <| qC rfl rfl rfl rfl rfl <| qA rfl rfl rfl <| qN <| mwp_cond_t rfl (rfl) <| mwp_seq ?_
     refine mwp_draw [] [_] mo (by decide) rfl rfl rfl rfl ?_
     refine dO rfl rfl rfl (op_fieldAddr_ref rfl rfl fo29_4 ⟨rfl, rfl⟩) <| dO rfl rfl rfl (op_load' rfl rfl rfl ta27 rfl ⟨rfl, rfl⟩) <| dO rfl rfl rfl (op_len_lst rfl Try.underlying27 rfl ⟨rfl, rfl⟩) <| dO rfl rfl rfl (op_cmp rfl rfl rfl rfl ⟨rfl, rfl⟩) <| dO rfl rfl rfl (op_move rfl rfl ⟨rfl, rfl⟩) ?_
     refine dOps_case (fun h65 => ?_) (fun h65 => ?_)
     ·
      obtain ⟨⟨n1, m1, s1, c1, w1⟩, ⟨n2, m2, s2, c2, w2⟩, rfl⟩ := two_of' (by rw [encVs_length] at h65; simp at h65; omega : w.length = 2)
      refine dO rfl rfl rfl (op_fieldAddr_ref rfl rfl fo36_1 ⟨rfl, rfl⟩) <| dO rfl rfl rfl (op_load' rfl rfl rfl ta34 rfl ⟨rfl, rfl⟩) <| dO rfl rfl rfl (op_indexAddr rfl Try.underlying34 sz36 (by decide) rfl rfl rfl (show _ = some (encS (.mk k1 i1)) from rfl) ⟨rfl, rfl⟩) ?_
      refine dO rfl rfl rfl (op_load_sptr rfl rfl ta36 rfl ⟨rfl, rfl⟩) <| dO rfl rfl rfl (op_fieldAddr_ref rfl rfl fo29_4 ⟨rfl, rfl⟩) <| dO rfl rfl rfl (op_load' rfl rfl rfl ta27 rfl ⟨rfl, rfl⟩) <| dO rfl rfl rfl (op_indexAddr rfl Try.underlying27 sz29 (by decide) rfl rfl rfl (show _ = some (encV (.mk n1 m1 s1 c1 w1)) from rfl) ⟨rfl, rfl⟩) ?_
      refine dO rfl rfl rfl (op_load_sptr rfl rfl ta29 rfl ⟨rfl, rfl⟩) <| dOps_op rfl rfl (.cons (op_call rfl rfl rfl co49 (ih1 (.mk n1 m1 s1 c1 w1) (hvs _ (by simp)) _)) .nil) ?_
      refine dO rfl rfl rfl (op_pick rfl rfl rfl ⟨rfl, rfl⟩) <| dO rfl rfl rfl (op_move rfl rfl ⟨rfl, rfl⟩) ?_
      refine dOps_case (fun h76 => ?_) (fun h76 => ?_)
      ·
       refine dO rfl rfl rfl (op_fieldAddr_ref rfl rfl fo36_1 ⟨rfl, rfl⟩) <| dO rfl rfl rfl (op_load' rfl rfl rfl ta34 rfl ⟨rfl, rfl⟩) <| dO rfl rfl rfl (op_indexAddr rfl Try.underlying34 sz36 (by decide) rfl rfl rfl (show _ = some (encS (.mk k2 i2)) from rfl) ⟨rfl, rfl⟩) ?_
       refine dO rfl rfl rfl (op_load_sptr rfl rfl ta36 rfl ⟨rfl, rfl⟩) <| dO rfl rfl rfl (op_fieldAddr_ref rfl rfl fo29_4 ⟨rfl, rfl⟩) <| dO rfl rfl rfl (op_load' rfl rfl rfl ta27 rfl ⟨rfl, rfl⟩) <| dO rfl rfl rfl (op_indexAddr rfl Try.underlying27 sz29 (by decide) rfl rfl rfl (show _ = some (encV (.mk n2 m2 s2 c2 w2)) from rfl) ⟨rfl, rfl⟩) ?_
       refine dO rfl rfl rfl (op_load_sptr rfl rfl ta29 rfl ⟨rfl, rfl⟩) <| dOps_op rfl rfl (.cons (op_call rfl rfl rfl co49 (ih2 (.mk n2 m2 s2 c2 w2) (hvs _ (by simp)) _)) .nil) ?_
       refine dO rfl rfl rfl (op_pick rfl rfl rfl ⟨rfl, rfl⟩) <| dO rfl rfl rfl (op_assign rfl rfl ⟨rfl, rfl⟩) <| dOps_nil <| mwp_ret ?_
       exact ret_tmp (.inr rfl) Try.results49 rfl (.of_eq (by rw [isVF_mk 5]; rw [show bareF 5 _ = true by simpa using h11, w40t, c40t]; simp only [Bool.true_and, isVL, List.headD_cons, List.tail_cons]; first | (congr 1; symm; rw [if_neg (by decide), if_neg (by decide), if_neg (by decide), if_neg (by decide), if_pos True.intro]; exact hm2) | (congr 1; rw [Bool.eq_iff_iff]; simp_all [encVs_length]))) (.bool _) ⟨rfl, rfl⟩
      ·
       refine dS rfl rfl <| dS rfl rfl <| dS rfl rfl <| dS rfl rfl <| dS rfl rfl <| dS rfl rfl <| dS rfl rfl <| dS rfl rfl <| dS rfl rfl <| dO rfl rfl rfl (op_pick rfl rfl rfl ⟨rfl, rfl⟩) <| dO rfl rfl rfl (op_assign rfl rfl ⟨rfl, rfl⟩) <| dOps_nil <| mwp_ret ?_
       exact ret_tmp (.inr rfl) Try.results49 rfl (.of_eq (by rw [isVF_mk 5]; rw [show bareF 5 _ = true by simpa using h11, w40t, c40t]; simp only [Bool.true_and, isVL, List.headD_cons, List.tail_cons]; first | (congr 1; symm; rw [if_neg (by decide), if_neg (by decide), if_neg (by decide), if_neg (by decide), if_pos True.intro]; exact hm2) | (congr 1; rw [Bool.eq_iff_iff]; simp_all [encVs_length]))) (.bool _) ⟨rfl, rfl⟩
     ·
      have hm2 := match2_no (f := isVF (.mk k1 i1)) (g := isVF (.mk k2 i2)) (by rw [encVs_length] at h65; simp at h65; omega : w.length ≠ 2)
      refine dS rfl rfl <| dS rfl rfl <| dS rfl rfl <| dS rfl rfl <| dS rfl rfl <| dS rfl rfl <| dS rfl rfl <| dS rfl rfl <| dS rfl rfl <| dO rfl rfl rfl (op_pick rfl rfl rfl ⟨rfl, rfl⟩) <| dO rfl rfl rfl (op_move rfl rfl ⟨rfl, rfl⟩) <| dS rfl rfl <| dS rfl rfl <| dS rfl rfl <| dS rfl rfl <| dS rfl rfl <| dS rfl rfl <| dS rfl rfl <| dS rfl rfl <| dS rfl rfl <| dO rfl rfl rfl (op_pick rfl rfl rfl ⟨rfl, rfl⟩) <| dO rfl rfl rfl (op_assign rfl rfl ⟨rfl, rfl⟩) <| dOps_nil <| mwp_ret ?_
      exact ret_tmp (.inr rfl) Try.results49 rfl (.of_eq (by rw [isVF_mk 5]; rw [show bareF 5 _ = true by simpa using h11, w40t, c40t]; simp only [Bool.true_and, isVL, List.headD_cons, List.tail_cons]; first | (congr 1; symm; rw [if_neg (by decide), if_neg (by decide), if_neg (by decide), if_neg (by decide), if_pos True.intro]; exact hm2) | (congr 1; rw [Bool.eq_iff_iff]; simp_all [encVs_length]))) (.bool _) ⟨rfl, rfl⟩
 ·
  refine mcalls_body Try.func49 rfl Try.ntmps49 (Nat.le_of_ble_eq_true rfl) ?_
  refine mwp_seq <| qR rfl <| qB rfl rfl rfl rfl rfl <| qB rfl rfl rfl rfl rfl <| qA rfl rfl rfl <| qN <| mwp_seq <| mwp_seq <| qR rfl <| qF rfl rfl rfl fo36_0 <| qL rfl rfl rfl rfl ta3 rfl <| qL rfl rfl rfl rfl ta29 rfl ?_
  refine wOps_op rfl (op_call rfl rfl rfl co61 ((bare_spec 6 (by omega) n m s c w _).mono ?_))
  rintro _ _ ⟨rfl, rfl⟩
  refine qO rfl <| op_not rfl rfl <| qM rfl rfl rfl ?_
  refine wOps_case (fun h11 => ?_) (fun h11 => ?_)
  ·
   refine qS rfl <| qS rfl <| qS rfl <| qS rfl <| qP rfl rfl rfl rfl <| qM rfl rfl rfl <| qS rfl <| qS rfl <| qS rfl <| qS rfl <| qP rfl rfl rfl rfl <| qN <| mwp_cond_t rfl (rfl) <| mwp_seq <| qR rfl <| qA rfl rfl rfl <| qN <| mwp_ret ?_
   exact ret_tmp (.inr rfl) Try.results49 rfl (.of_eq (by rw [isVF_mk 6]; congr 1; symm; first | (rw [show bareF 6 _ = false by simpa using h11]; rfl) | (rw [w40f]; simp; done) | (rw [c40f]; simp; done))) (.bool _) ⟨rfl, rfl⟩
  ·
   refine qF rfl rfl rfl fo29_4 <| qL rfl rfl rfl rfl ta27 rfl <| qE rfl rfl Try.underlying27 rfl <| qC rfl rfl rfl rfl rfl <| qP rfl rfl rfl rfl <| qM rfl rfl rfl ?_
   refine wOps_case (fun h17 => ?_) (fun h17 => ?_)
   ·
    have w40f := decide_eq_false (by rw [encVs_length] at h17; simp at h17; omega : ¬ w.length ≤ 40)
    refine qS rfl <| qS rfl <| qS rfl <| qS rfl <| qP rfl rfl rfl rfl <| qN <| mwp_cond_t rfl (rfl) <| mwp_seq <| qR rfl <| qA rfl rfl rfl <| qN <| mwp_ret ?_
    exact ret_tmp (.inr rfl) Try.results49 rfl (.of_eq (by rw [isVF_mk 6]; congr 1; symm; first | (rw [show bareF 6 _ = false by simpa using h11]; rfl) | (rw [w40f]; simp; done) | (rw [c40f]; simp; done))) (.bool _) ⟨rfl, rfl⟩
   ·
    have w40t := decide_eq_true (by rw [encVs_length] at h17; simp at h17; omega : w.length ≤ 40)
    refine qF rfl rfl rfl fo29_3 <| qL rfl rfl rfl rfl ta26 rfl <| qE rfl rfl Try.underlying26 rfl <| qC rfl rfl rfl rfl rfl <| qP rfl rfl rfl rfl <| qN ?_
    refine mwp_cond_split rfl (fun h22 => ?_) (fun h22 => ?_)
    ·
     have c40f := decide_eq_false (by rw [List.length_map] at h22; simp at h22; omega : ¬ c.length ≤ 40)
     refine mwp_seq <| qR rfl <| qA rfl rfl rfl <| qN <| mwp_ret ?_
     exact ret_tmp (.inr rfl) Try.results49 rfl (.of_eq (by rw [isVF_mk 6]; congr 1; symm; first | (rw [show bareF 6 _ = false by simpa using h11]; rfl) | (rw [w40f]; simp; done) | (rw [c40f]; simp; done))) (.bool _) ⟨rfl, rfl⟩
    ·
     have c40t := decide_eq_true (by rw [List.length_map] at h22; simp at h22; omega : c.length ≤ 40)
     refine mwp_skip <| mwp_seq <| qR rfl <| qO rfl <| op_makeFunc rfl rfl rfl <| qO rfl <| op_alloc' rfl zm126 rfl rfl <| qO rfl <| op_store' rfl rfl rfl rfl sz126 rfl rfl (Nat.le_of_ble_eq_true rfl) rfl <| qN <| mwp_seq <| mwp_seq <| qR rfl <| qF rfl rfl rfl fo36_0 <| qL rfl rfl rfl rfl ta3 rfl <| qN <| mwp_block <| mwp_seq <| qR rfl <| qC rfl rfl rfl rfl rfl <| qA rfl rfl rfl <| qN <| mwp_cond_f rfl (rfl) <| mwp_seq <| qR rfl <| qC rfl rfl rfl rfl rfl ?_
     refine qA rfl rfl rfl <| qN <| mwp_cond_f rfl (rfl) <| mwp_seq <| qR rfl <| qC rfl rfl rfl rfl rfl <| qA rfl rfl rfl <| qN <| mwp_cond_f rfl (rfl) <| mwp_seq <| qR rfl <| qC rfl rfl rfl rfl rfl <| qA rfl rfl rfl <| qN <| mwp_cond_f rfl (rfl) <| mwp_seq <| qR rfl <| qC rfl rfl rfl rfl rfl <| qA rfl rfl rfl <| qN <| mwp_cond_f rfl (rfl) <| mwp_seq <| qR rfl ?_
     refine qC rfl rfl rfl rfl rfl <| qA rfl rfl rfl <| qN <| mwp_cond_t rfl (rfl) <| mwp_seq <| qR rfl <| qL rfl rfl rfl rfl ta29 rfl ?_
     refine wOps_op rfl (op_call rfl rfl rfl co67 ((isLast_spec n m s c w hv.1.1 hv.2.1.1 _).mono ?_))
     rintro _ _ ⟨rfl, rfl⟩
     refine qA rfl rfl rfl <| qN <| mwp_ret ?_
     exact ret_tmp (.inr rfl) Try.results49 rfl (.of_eq (by rw [isVF_mk 6]; rw [show bareF 6 _ = true by simpa using h11, w40t, c40t]; simp only [Bool.true_and, isVL, List.headD_cons, List.tail_cons]; rfl)) (.bool _) ⟨rfl, rfl⟩
 ·
  refine mcalls_body Try.func49 rfl Try.ntmps49 (Nat.le_of_ble_eq_true rfl) ?_
  refine mwp_seq <| qR rfl <| qB rfl rfl rfl rfl rfl <| qB rfl rfl rfl rfl rfl <| qA rfl rfl rfl <| qN <| mwp_seq <| mwp_seq <| qR rfl <| qF rfl rfl rfl fo36_0 <| qL rfl rfl rfl rfl ta3 rfl <| qL rfl rfl rfl rfl ta29 rfl ?_
  refine wOps_op rfl (op_call rfl rfl rfl co61 ((bare_spec 7 (by omega) n m s c w _).mono ?_))
  rintro _ _ ⟨rfl, rfl⟩
  refine qO rfl <| op_not rfl rfl <| qM rfl rfl rfl ?_
  refine wOps_case (fun h11 => ?_) (fun h11 => ?_)
  ·
   refine qS rfl <| qS rfl <| qS rfl <| qS rfl <| qP rfl rfl rfl rfl <| qM rfl rfl rfl <| qS rfl <| qS rfl <| qS rfl <| qS rfl <| qP rfl rfl rfl rfl <| qN <| mwp_cond_t rfl (rfl) <| mwp_seq <| qR rfl <| qA rfl rfl rfl <| qN <| mwp_ret ?_
   exact ret_tmp (.inr rfl) Try.results49 rfl (.of_eq (by rw [isVF_mk 7]; congr 1; symm; first | (rw [show bareF 7 _ = false by simpa using h11]; rfl) | (rw [w40f]; simp; done) | (rw [c40f]; simp; done))) (.bool _) ⟨rfl, rfl⟩
  ·
   refine qF rfl rfl rfl fo29_4 <| qL rfl rfl rfl rfl ta27 rfl <| qE rfl rfl Try.underlying27 rfl <| qC rfl rfl rfl rfl rfl <| qP rfl rfl rfl rfl <| qM rfl rfl rfl ?_
   refine wOps_case (fun h17 => ?_) (fun h17 => ?_)
   ·
    have w40f := decide_eq_false (by rw [encVs_length] at h17; simp at h17; omega : ¬ w.length ≤ 40)
    refine qS rfl <| qS rfl <| qS rfl <| qS rfl <| qP rfl rfl rfl rfl <| qN <| mwp_cond_t rfl (rfl) <| mwp_seq <| qR rfl <| qA rfl rfl rfl <| qN <| mwp_ret ?_
    exact ret_tmp (.inr rfl) Try.results49 rfl (.of_eq (by rw [isVF_mk 7]; congr 1; symm; first | (rw [show bareF 7 _ = false by simpa using h11]; rfl) | (rw [w40f]; simp; done) | (rw [c40f]; simp; done))) (.bool _) ⟨rfl, rfl⟩
   ·
    have w40t := decide_eq_true (by rw [encVs_length] at h17; simp at h17; omega : w.length ≤ 40)
    refine qF rfl rfl rfl fo29_3 <| qL rfl rfl rfl rfl ta26 rfl <| qE rfl rfl Try.underlying26 rfl <| qC rfl rfl rfl rfl rfl <| qP rfl rfl rfl rfl <| qN ?_
    refine mwp_cond_split rfl (fun h22 => ?_) (fun h22 => ?_)
    ·
     have c40f := decide_eq_false (by rw [List.length_map] at h22; simp at h22; omega : ¬ c.length ≤ 40)
     refine mwp_seq <| qR rfl <| qA rfl rfl rfl <| qN <| mwp_ret ?_
     exact ret_tmp (.inr rfl) Try.results49 rfl (.of_eq (by rw [isVF_mk 7]; congr 1; symm; first | (rw [show bareF 7 _ = false by simpa using h11]; rfl) | (rw [w40f]; simp; done) | (rw [c40f]; simp; done))) (.bool _) ⟨rfl, rfl⟩
    ·
     have c40t := decide_eq_true (by rw [List.length_map] at h22; simp at h22; omega : c.length ≤ 40)
     refine mwp_skip <| mwp_seq <| qR rfl <| qO rfl <| op_makeFunc rfl rfl rfl <| qO rfl <| op_alloc' rfl zm126 rfl rfl <| qO rfl <| op_store' rfl rfl rfl rfl sz126 rfl rfl (Nat.le_of_ble_eq_true rfl) rfl <| qN <| mwp_seq <| mwp_seq <| qR rfl <| qF rfl rfl rfl fo36_0 <| qL rfl rfl rfl rfl ta3 rfl <| qN <| mwp_block <| mwp_seq <| qR rfl <| qC rfl rfl rfl rfl rfl <| qA rfl rfl rfl <| qN <| mwp_cond_f rfl (rfl) <| mwp_seq <| qR rfl <| qC rfl rfl rfl rfl rfl ?_
     refine qA rfl rfl rfl <| qN <| mwp_cond_f rfl (rfl) <| mwp_seq <| qR rfl <| qC rfl rfl rfl rfl rfl <| qA rfl rfl rfl <| qN <| mwp_cond_f rfl (rfl) <| mwp_seq <| qR rfl <| qC rfl rfl rfl rfl rfl <| qA rfl rfl rfl <| qN <| mwp_cond_f rfl (rfl) <| mwp_seq <| qR rfl <| qC rfl rfl rfl rfl rfl <| qA rfl rfl rfl <| qN <| mwp_cond_f rfl (rfl) <| mwp_seq <| qR rfl ?_
     refine qC rfl rfl rfl rfl rfl <| qA rfl rfl rfl <| qN <| mwp_cond_f rfl (rfl) <| mwp_seq <| qR rfl <| qC rfl rfl rfl rfl rfl <| qA rfl rfl rfl <| qN <| mwp_cond_t rfl (rfl) <| mwp_seq <| qR rfl <| qF rfl rfl rfl fo29_3 <| qL rfl rfl rfl rfl ta26 rfl <| qE rfl rfl Try.underlying26 rfl <| qC rfl rfl rfl rfl rfl <| qM rfl rfl rfl ?_
     refine wOps_case (fun h97 => ?_) (fun h97 => ?_)
     ·
      refine qS rfl <| qS rfl <| qS rfl <| qS rfl <| qS rfl <| qS rfl <| qS rfl <| qS rfl <| qS rfl <| qS rfl <| qS rfl <| qS rfl <| qS rfl <| qS rfl <| qS rfl <| qS rfl <| qS rfl <| qS rfl <| qS rfl <| qP rfl rfl rfl rfl <| qA rfl rfl rfl <| qN <| mwp_ret ?_
      exact ret_tmp (.inr rfl) Try.results49 rfl (.of_eq (by rw [isVF_mk 7]; rw [show bareF 7 _ = true by simpa using h11, w40t, c40t]; simp only [Bool.true_and, isVL, List.headD_cons, List.tail_cons]; first | (congr 1; symm; rw [if_neg (by decide), if_neg (by decide), if_neg (by decide), if_neg (by decide), if_neg (by decide), if_neg (by decide), if_pos True.intro]; exact hm2) | (congr 1; rw [Bool.eq_iff_iff]; simp_all))) (.bool _) ⟨rfl, rfl⟩
     ·
      have hc0 : ¬ c = [] := by simpa using h97
      refine qF rfl rfl rfl fo29_3 <| qL rfl rfl rfl rfl ta26 rfl <| qE rfl rfl Try.underlying26 rfl <| qC rfl rfl rfl rfl rfl <| qM rfl rfl rfl ?_
      refine wOps_case (fun h102 => ?_) (fun h102 => ?_)
      ·
       obtain ⟨c0, rfl⟩ := one_of (by rw [List.length_map] at h102; simp at h102; omega : c.length = 1)
       refine qF rfl rfl rfl fo29_3 <| qL rfl rfl rfl rfl ta26 rfl <| qO rfl <| op_indexAddr rfl Try.underlying26 sz95 (by decide) rfl rfl rfl (show _ = some (encC c0) from rfl) ?_
       refine qO rfl <| op_load_sptr rfl rfl ta95 rfl <| qE rfl rfl Try.underlying95 rfl <| qC rfl rfl rfl rfl rfl <| qP rfl rfl rfl rfl <| qM rfl rfl rfl ?_
       refine wOps_case (fun h110 => ?_) (fun h110 => ?_)
       ·
        refine qF rfl rfl rfl fo29_3 <| qL rfl rfl rfl rfl ta26 rfl <| qO rfl <| op_indexAddr rfl Try.underlying26 sz95 (by decide) rfl rfl rfl (show _ = some (encC c0) from rfl) ?_
        refine qO rfl <| op_load_sptr rfl rfl ta95 rfl ?_
        refine wOps_op rfl (op_call rfl rfl rfl co68 ((clkIs_spec c0 _).mono ?_))
        rintro _ _ ⟨rfl, rfl⟩
        refine qP rfl rfl rfl rfl <| qP rfl rfl rfl rfl <| qA rfl rfl rfl <| qN <| mwp_ret ?_
        exact ret_tmp (.inr rfl) Try.results49 rfl (.of_eq (by rw [isVF_mk 7]; rw [show bareF 7 _ = true by simpa using h11, w40t, c40t]; simp only [Bool.true_and, isVL, List.headD_cons, List.tail_cons]; first | (congr 1; symm; rw [if_neg (by decide), if_neg (by decide), if_neg (by decide), if_neg (by decide), if_neg (by decide), if_neg (by decide), if_pos True.intro]; exact hm2) | (congr 1; rw [Bool.eq_iff_iff]; simp_all))) (.bool _) ⟨rfl, rfl⟩
       ·
        refine qS rfl <| qS rfl <| qS rfl <| qS rfl <| qS rfl <| qP rfl rfl rfl rfl <| qP rfl rfl rfl rfl <| qA rfl rfl rfl <| qN <| mwp_ret ?_
        exact ret_tmp (.inr rfl) Try.results49 rfl (.of_eq (by rw [isVF_mk 7]; rw [show bareF 7 _ = true by simpa using h11, w40t, c40t]; simp only [Bool.true_and, isVL, List.headD_cons, List.tail_cons]; first | (congr 1; symm; rw [if_neg (by decide), if_neg (by decide), if_neg (by decide), if_neg (by decide), if_neg (by decide), if_neg (by decide), if_pos True.intro]; exact hm2) | (congr 1; rw [Bool.eq_iff_iff]; simp_all))) (.bool _) ⟨rfl, rfl⟩
      ·
       have hm2 := match1_no hc0 (by rw [List.length_map] at h102; simp at h102; omega : c.length ≠ 1)
       refine qS rfl <| qS rfl <| qS rfl <| qS rfl <| qS rfl <| qS rfl <| qP rfl rfl rfl rfl <| qM rfl rfl rfl <| qS rfl <| qS rfl <| qS rfl <| qS rfl <| qS rfl <| qP rfl rfl rfl rfl <| qP rfl rfl rfl rfl <| qA rfl rfl rfl <| qN <| mwp_ret ?_
       exact ret_tmp (.inr rfl) Try.results49 rfl (.of_eq (by rw [isVF_mk 7]; rw [show bareF 7 _ = true by simpa using h11, w40t, c40t]; simp only [Bool.true_and, isVL, List.headD_cons, List.tail_cons]; first | (congr 1; symm; rw [if_neg (by decide), if_neg (by decide), if_neg (by decide), if_neg (by decide), if_neg (by decide), if_neg (by decide), if_pos True.intro]; exact hm2) | (congr 1; rw [Bool.eq_iff_iff]; simp_all))) (.bool _) ⟨rfl, rfl⟩
 ·
  obtain ⟨⟨k1, i1⟩, rfl⟩ := one_ins hd.1 (by decide)
  have ih1 := ih (.mk k1 i1) (hd.2 _ (by simp))
  refine mcalls_body Try.func49 rfl Try.ntmps49 (Nat.le_of_ble_eq_true rfl) ?_
  refine mwp_seq <| qR rfl <| qB rfl rfl rfl rfl rfl <| qB rfl rfl rfl rfl rfl <| qA rfl rfl rfl <| qN <| mwp_seq <| mwp_seq <| qR rfl <| qF rfl rfl rfl fo36_0 <| qL rfl rfl rfl rfl ta3 rfl <| qL rfl rfl rfl rfl ta29 rfl ?_
  refine wOps_op rfl (op_call rfl rfl rfl co61 ((bare_spec 8 (by omega) n m s c w _).mono ?_))
  rintro _ _ ⟨rfl, rfl⟩
  refine qO rfl <| op_not rfl rfl <| qM rfl rfl rfl ?_
  refine wOps_case (fun h11 => ?_) (fun h11 => ?_)
  ·
   refine qS rfl <| qS rfl <| qS rfl <| qS rfl <| qP rfl rfl rfl rfl <| qM rfl rfl rfl <| qS rfl <| qS rfl <| qS rfl <| qS rfl <| qP rfl rfl rfl rfl <| qN <| mwp_cond_t rfl (rfl) <| mwp_seq <| qR rfl <| qA rfl rfl rfl <| qN <| mwp_ret ?_
   exact ret_tmp (.inr rfl) Try.results49 rfl (.of_eq (by rw [isVF_mk 8]; congr 1; symm; first | (rw [show bareF 8 _ = false by simpa using h11]; rfl) | (rw [w40f]; simp; done) | (rw [c40f]; simp; done))) (.bool _) ⟨rfl, rfl⟩
  ·
   refine qF rfl rfl rfl fo29_4 <| qL rfl rfl rfl rfl ta27 rfl <| qE rfl rfl Try.underlying27 rfl <| qC rfl rfl rfl rfl rfl <| qP rfl rfl rfl rfl <| qM rfl rfl rfl ?_
   refine wOps_case (fun h17 => ?_) (fun h17 => ?_)
   ·
    have w40f := decide_eq_false (by rw [encVs_length] at h17; simp at h17; omega : ¬ w.length ≤ 40)
    refine qS rfl <| qS rfl <| qS rfl <| qS rfl <| qP rfl rfl rfl rfl <| qN <| mwp_cond_t rfl (rfl) <| mwp_seq <| qR rfl <| qA rfl rfl rfl <| qN <| mwp_ret ?_
    exact ret_tmp (.inr rfl) Try.results49 rfl (.of_eq (by rw [isVF_mk 8]; congr 1; symm; first | (rw [show bareF 8 _ = false by simpa using h11]; rfl) | (rw [w40f]; simp; done) | (rw [c40f]; simp; done))) (.bool _) ⟨rfl, rfl⟩
   ·
    have w40t := decide_eq_true (by rw [encVs_length] at h17; simp at h17; omega : w.length ≤ 40)
    refine qF rfl rfl rfl fo29_3 <| qL rfl rfl rfl rfl ta26 rfl <| qE rfl rfl Try.underlying26 rfl <| qC rfl rfl rfl rfl rfl <| qP rfl rfl rfl rfl <| qN ?_
    refine mwp_cond_split rfl (fun h22 => ?_) (fun h22 => ?_)
    ·
     have c40f := decide_eq_false (by rw [List.length_map] at h22; simp at h22; omega : ¬ c.length ≤ 40)
     refine mwp_seq <| qR rfl <| qA rfl rfl rfl <| qN <| mwp_ret ?_
     exact ret_tmp (.inr rfl) Try.results49 rfl (.of_eq (by rw [isVF_mk 8]; congr 1; symm; first | (rw [show bareF 8 _ = false by simpa using h11]; rfl) | (rw [w40f]; simp; done) | (rw [c40f]; simp; done))) (.bool _) ⟨rfl, rfl⟩
    ·
     have c40t := decide_eq_true (by rw [List.length_map] at h22; simp at h22; omega : c.length ≤ 40)
     refine mwp_skip <| mwp_seq <| qR rfl <| qO rfl <| op_makeFunc rfl rfl rfl <| qO rfl <| op_alloc' rfl zm126 rfl rfl <| qO rfl <| op_store' rfl rfl rfl rfl sz126 rfl rfl (Nat.le_of_ble_eq_true rfl) rfl <| qN <| mwp_seq <| mwp_seq <| qR rfl <| qF rfl rfl rfl fo36_0 <| qL rfl rfl rfl rfl ta3 rfl <| qN <| mwp_block <| mwp_seq <| qR rfl <| qC rfl rfl rfl rfl rfl <| qA rfl rfl rfl <| qN <| mwp_cond_f rfl (rfl) <| mwp_seq <| qR rfl <| qC rfl rfl rfl rfl rfl ?_
     refine qA rfl rfl rfl <| qN <| mwp_cond_f rfl (rfl) <| mwp_seq <| qR rfl <| qC rfl rfl rfl rfl rfl <| qA rfl rfl rfl <| qN <| mwp_cond_f rfl (rfl) <| mwp_seq <| qR rfl <| qC rfl rfl rfl rfl rfl <| qA rfl rfl rfl <| qN <| mwp_cond_f rfl (rfl) <| mwp_seq <| qR rfl <| qC rfl rfl rfl rfl rfl <| qA rfl rfl rfl <| qN <| mwp_cond_f rfl (rfl) <| mwp_seq <| qR rfl ?_
     refine qC rfl rfl rfl rfl rfl <| qA rfl rfl rfl <| qN <| mwp_cond_f rfl (rfl) <| mwp_seq <| qR rfl <| qC rfl rfl rfl rfl rfl <| qA rfl rfl rfl <| qN <| mwp_cond_f rfl (rfl) <| mwp_skip <| mwp_seq <| qR rfl <| qF rfl rfl rfl fo29_3 <| qL rfl rfl rfl rfl ta26 rfl <| qE rfl rfl Try.underlying26 rfl <| qF rfl rfl rfl fo29_4 <| qL rfl rfl rfl rfl ta27 rfl <| qE rfl rfl Try.underlying27 rfl <| qC rfl rfl rfl rfl rfl ?_
     refine qM rfl rfl rfl ?_
     refine wOps_case (fun h125 => ?_) (fun h125 => ?_)
     ·
      have hsl : c.length = w.length := by rw [List.length_map, encVs_length] at h125; simp at h125; omega
      refine qF rfl rfl rfl fo29_3 <| qL rfl rfl rfl rfl ta26 rfl ?_
      refine wOps_op rfl (op_call rfl rfl rfl co69 ((isCause_spec c _).mono ?_))
      rintro _ _ ⟨rfl, rfl⟩
      refine qP rfl rfl rfl rfl <| qM rfl rfl rfl ?_
      refine wOps_case (fun h130 => ?_) (fun h130 => ?_)
      ·
       refine qF rfl rfl rfl fo29_4 <| qL rfl rfl rfl rfl ta27 rfl <| qO rfl <| op_makeFunc rfl rfl rfl ?_
       refine wOps_op rfl (op_call rfl rfl rfl co64 ((vContains_spec _ w (fun x => !isVF (.mk k1 i1) x) _ [] [.ref (S.length + 2) 0] co70 (fun x hx X => is3v_spec 8 k1 i1 [] (isVF (.mk k1 i1)) ih1 x (hvs x hx) _ _ _ (get_mid_ (k := 2) rfl) (get_mid_ (k := 0) rfl))).mono ?_))
       rintro _ _ ⟨rfl, rfl⟩
       refine qO rfl <| op_not rfl rfl <| qP rfl rfl rfl rfl <| qA rfl rfl rfl <| qN <| mwp_ret ?_
       exact ret_tmp (.inr rfl) Try.results49 rfl (.of_eq (by rw [isVF_mk 8]; rw [show bareF 8 _ = true by simpa using h11, w40t, c40t]; simp only [Bool.true_and, isVL, List.headD_cons, List.tail_cons]; congr 1; rw [Bool.eq_iff_iff]; simp_all [encVs_length, any_all'])) (.bool _) ⟨rfl, rfl⟩
      ·
       refine qS rfl <| qS rfl <| qS rfl <| qS rfl <| qS rfl <| qP rfl rfl rfl rfl <| qA rfl rfl rfl <| qN <| mwp_ret ?_
       exact ret_tmp (.inr rfl) Try.results49 rfl (.of_eq (by rw [isVF_mk 8]; rw [show bareF 8 _ = true by simpa using h11, w40t, c40t]; simp only [Bool.true_and, isVL, List.headD_cons, List.tail_cons]; congr 1; rw [Bool.eq_iff_iff]; simp_all [encVs_length, any_all'])) (.bool _) ⟨rfl, rfl⟩
     ·
      have hsl : ¬ c.length = w.length := by rw [List.length_map, encVs_length] at h125; simp at h125; omega
      refine qS rfl <| qS rfl <| qS rfl <| qP rfl rfl rfl rfl <| qM rfl rfl rfl <| qS rfl <| qS rfl <| qS rfl <| qS rfl <| qS rfl <| qP rfl rfl rfl rfl <| qA rfl rfl rfl <| qN <| mwp_ret ?_
      exact ret_tmp (.inr rfl) Try.results49 rfl (.of_eq (by rw [isVF_mk 8]; rw [show bareF 8 _ = true by simpa using h11, w40t, c40t]; simp only [Bool.true_and, isVL, List.headD_cons, List.tail_cons]; congr 1; rw [Bool.eq_iff_iff]; simp_all [encVs_length, any_all'])) (.bool _) ⟨rfl, rfl⟩
end Go.Proofs.Ythkikhggmbiffaa
end
section
set_option linter.unusedVariables false
set_option linter.unusedSimpArgs false
set_option maxRecDepth 20000
set_option maxHeartbeats 400000
namespace Go.Proofs.Ythkikhggmbiffaa
open Go Go.MV Go.RowKit
theorem op_load_own {P : Program} {rd : Option Nat} {o : Oper} {env : Env} {K : MV → MS → Prop} {S S1 L : MS} {t : TypeId} {x : Operand} {k off : Nat} {l : List MV} {ta : Option Nat} {m : MV} (hlen : S1.length = S.length) (ho : o.op = .load t x) (hx : evo env x = some (.ref (S.length + k) off)) (hσ : L[k]? = some (.cells l)) (ht : tyAgg P t = some ta) (hm : loadMV ta l off = some m) (h : K m (S1 ++ L)) : OpWp P rd o env (S1 ++ L) K :=
 op_load_ref ho hx (by rw [own_getS hlen]; exact hσ) ht hm h
theorem op_store_own {P : Program} {rd : Option Nat} {o : Oper} {env : Env} {K : MV → MS → Prop} {S S1 L L' : MS} {t : TypeId} {x y : Operand} {i off : Nat} {l : List MV} {m : MV} {k : Nat} (hlen : S1.length = S.length) (ho : o.op = .store t x y) (hx : evo env x = some (.ref (S.length + i) off)) (hy : evo env y = some m) (hσ : L[i]? = some (.cells l)) (hk : szOf P t = some k) (hm : m.cells.length = k)
  (h1 : m.cells.all MV.one = true) (hle : off + k ≤ l.length) (hL : L.set i (.cells (setMany l off m.cells)) = L') (h : K (.tup []) (S1 ++ L')) : OpWp P rd o env (S1 ++ L) K := by
 refine op_store ho hx hy (by rw [own_getS hlen]; exact hσ) hk hm h1 hle ?_
 rw [own_setS hlen, hL]
 exact h
def flatM (k : Int) (r : RdS) : Val × RdS := if k = 3 then (.mk 0 0 (rowM textM r).1 [] [], (rowM textM r).2) else (.mk ((numM r).1 : Int) 0 [] [] [], (numM r).2)
theorem flat_reads (k : Int) (ins : List Sch) (hk : k = 1 ∨ k = 2 ∨ k = 3) (id : Nat) : Reads 23 [.ref id 0, encS (.mk k ins)] id encV (flatM k) := by
 intro r S h hlen
 rcases hk with rfl | rfl | rfl
 ·
  refine mcalls_body Try.func23 rfl Try.ntmps23 (Nat.le_of_ble_eq_true rfl) ?_
  refine mwp_facts fun _ hcl => ?_
  have hcl0 := hcl
  rw [List.append_nil] at hcl
  refine mwp_seq <| qR rfl <| qB rfl rfl rfl rfl rfl <| qB rfl rfl rfl rfl rfl <| qO rfl <| op_alloc' rfl zm29 rfl rfl <| qN <| mwp_seq <| qR rfl <| qO rfl <| op_alloc' rfl zm29 rfl rfl <| qN <| mwp_seq <| qR rfl <| qO rfl <| op_makeFunc rfl rfl rfl <| qO rfl <| op_alloc' rfl zm91 rfl rfl <| qO rfl <| op_store_own (by simp) rfl rfl rfl rfl sz91 rfl rfl (Nat.le_of_ble_eq_true rfl) rfl ?_
  refine qN <| mwp_seq <| mwp_seq <| qR rfl <| qF rfl rfl rfl fo36_0 <| qO rfl <| op_load_own (by simp) rfl rfl rfl ta3 rfl ?_
  refine qN <| mwp_block <| mwp_seq <| mwp_seq <| qR rfl <| qC rfl rfl rfl rfl rfl <| qA rfl rfl rfl <| qN <| mwp_cond_t rfl (rfl) <| mwp_skip <| mwp_cond_t rfl (rfl) <| qR rfl <| qO rfl <| op_load_own (by simp) rfl rfl rfl ta58 rfl ?_
  refine wOps_op rfl (op_call rfl rfl rfl co41 (((num_reads id).sl h hlen).mono ?_))
  rintro _ _ ⟨rfl, rfl⟩
  refine qF rfl rfl rfl fo29_0 <| qO rfl <| op_store_own (by simp) rfl rfl rfl rfl sz22 rfl rfl (Nat.le_of_ble_eq_true rfl) rfl ?_
  refine qN <| mwp_seq <| qR rfl <| qO rfl <| op_load_own (by simp) rfl rfl rfl ta29 rfl ?_
  refine qO rfl <| op_store_own (by simp) rfl rfl rfl rfl sz29 rfl rfl (Nat.le_of_ble_eq_true rfl) rfl ?_
  refine qN <| mwp_ret ?_
  exact ret_cellS (y := encV (.mk ((numM r).1 : Int) 0 [] [] [])) (by simp) (.inr rfl) Try.results23 rfl rfl ta29 rfl (.agg (.cons (.refl _) (.cons (.refl _) (.cons (.nil 1) (.cons (.nil 1) (.cons (.nil 5) .nil)))))) (cl_encV _ _) (hcl.set (rd_cl _ _)) ⟨rfl, rfl⟩
 ·
  refine mcalls_body Try.func23 rfl Try.ntmps23 (Nat.le_of_ble_eq_true rfl) ?_
  refine mwp_facts fun _ hcl => ?_
  have hcl0 := hcl
  rw [List.append_nil] at hcl
  refine mwp_seq <| qR rfl <| qB rfl rfl rfl rfl rfl <| qB rfl rfl rfl rfl rfl <| qO rfl <| op_alloc' rfl zm29 rfl rfl <| qN <| mwp_seq <| qR rfl <| qO rfl <| op_alloc' rfl zm29 rfl rfl <| qN <| mwp_seq <| qR rfl <| qO rfl <| op_makeFunc rfl rfl rfl <| qO rfl <| op_alloc' rfl zm91 rfl rfl <| qO rfl <| op_store_own (by simp) rfl rfl rfl rfl sz91 rfl rfl (Nat.le_of_ble_eq_true rfl) rfl ?_
  refine qN <| mwp_seq <| mwp_seq <| qR rfl <| qF rfl rfl rfl fo36_0 <| qO rfl <| op_load_own (by simp) rfl rfl rfl ta3 rfl ?_
  refine qN <| mwp_block <| mwp_seq <| mwp_seq <| qR rfl <| qC rfl rfl rfl rfl rfl <| qA rfl rfl rfl <| qN <| mwp_cond_f rfl (rfl) <| qR rfl <| qC rfl rfl rfl rfl rfl <| qA rfl rfl rfl <| qN <| mwp_cond_t rfl (rfl) <| qR rfl <| qO rfl <| op_load_own (by simp) rfl rfl rfl ta58 rfl ?_
  refine wOps_op rfl (op_call rfl rfl rfl co41 (((num_reads id).sl h hlen).mono ?_))
  rintro _ _ ⟨rfl, rfl⟩
  refine qF rfl rfl rfl fo29_0 <| qO rfl <| op_store_own (by simp) rfl rfl rfl rfl sz22 rfl rfl (Nat.le_of_ble_eq_true rfl) rfl ?_
  refine qN <| mwp_seq <| qR rfl <| qO rfl <| op_load_own (by simp) rfl rfl rfl ta29 rfl ?_
  refine qO rfl <| op_store_own (by simp) rfl rfl rfl rfl sz29 rfl rfl (Nat.le_of_ble_eq_true rfl) rfl ?_
  refine qN <| mwp_ret ?_
  exact ret_cellS (y := encV (.mk ((numM r).1 : Int) 0 [] [] [])) (by simp) (.inr rfl) Try.results23 rfl rfl ta29 rfl (.agg (.cons (.refl _) (.cons (.refl _) (.cons (.nil 1) (.cons (.nil 1) (.cons (.nil 5) .nil)))))) (cl_encV _ _) (hcl.set (rd_cl _ _)) ⟨rfl, rfl⟩
 ·
  refine mcalls_body Try.func23 rfl Try.ntmps23 (Nat.le_of_ble_eq_true rfl) ?_
  refine mwp_facts fun _ hcl => ?_
  have hcl0 := hcl
  rw [List.append_nil] at hcl
  refine mwp_seq <| qR rfl <| qB rfl rfl rfl rfl rfl <| qB rfl rfl rfl rfl rfl <| qO rfl <| op_alloc' rfl zm29 rfl rfl <| qN <| mwp_seq <| qR rfl <| qO rfl <| op_alloc' rfl zm29 rfl rfl <| qN <| mwp_seq <| qR rfl <| qO rfl <| op_makeFunc rfl rfl rfl <| qO rfl <| op_alloc' rfl zm91 rfl rfl <| qO rfl <| op_store_own (by simp) rfl rfl rfl rfl sz91 rfl rfl (Nat.le_of_ble_eq_true rfl) rfl ?_
  refine qN <| mwp_seq <| mwp_seq <| qR rfl <| qF rfl rfl rfl fo36_0 <| qO rfl <| op_load_own (by simp) rfl rfl rfl ta3 rfl ?_
  refine qN <| mwp_block <| mwp_seq <| mwp_seq <| qR rfl <| qC rfl rfl rfl rfl rfl <| qA rfl rfl rfl <| qN <| mwp_cond_f rfl (rfl) <| qR rfl <| qC rfl rfl rfl rfl rfl <| qA rfl rfl rfl <| qN <| mwp_cond_f rfl (rfl) <| mwp_seq <| qR rfl <| qC rfl rfl rfl rfl rfl <| qA rfl rfl rfl <| qN <| mwp_cond_t rfl (rfl) ?_
  refine mwp_facts fun _ hcl2 => ?_
  refine qR rfl <| qO rfl <| op_load_own (by simp) rfl rfl rfl ta58 rfl ?_
  refine qO rfl <| op_load_own (by simp) rfl rfl rfl ta58 rfl ?_
  refine qO rfl <| op_makeFunc rfl rfl rfl ?_
  refine wOps_op rfl (op_call rfl rfl rfl co42 (((rowX_base co43 (text_reads id) textM_len r _ (get_sl h) (by assumption) hlen)).mono ?_))
  rintro _ _ ⟨rfl, rfl⟩
  rw [set_sl h]
  refine qF rfl rfl rfl fo29_2 <| qO rfl <| op_store_own (by simp) rfl rfl rfl rfl sz25 rfl rfl (Nat.le_of_ble_eq_true rfl) rfl ?_
  refine qN <| mwp_seq <| qR rfl <| qO rfl <| op_load_own (by simp) rfl rfl rfl ta29 rfl ?_
  refine qO rfl <| op_store_own (by simp) rfl rfl rfl rfl sz29 rfl rfl (Nat.le_of_ble_eq_true rfl) rfl ?_
  refine qN <| mwp_ret ?_
  exact ret_cellS (y := encV (.mk 0 0 (rowM textM r).1 [] [])) (by simp) (.inr rfl) Try.results23 rfl rfl ta29 rfl (.agg (.cons (.refl _) (.cons (.refl _) (.cons (.refl _) (.cons (.nil 1) (.cons (.nil 5) .nil)))))) (cl_encV _ _) (hcl.set (rd_cl _ _)) ⟨rfl, rfl⟩
end Go.Proofs.Ythkikhggmbiffaa
end
section
set_option linter.unusedVariables false
set_option linter.unusedSimpArgs false
set_option maxRecDepth 20000
set_option maxHeartbeats 400000
namespace Go.Proofs.Ythkikhggmbiffaa
open Go Go.MV
theorem valIs_spec (s : Sch) (x : Val) (hx : okV x) (S : MS) : MCalls Try.prog 24 [encS s, encV x] S fun v σ' => v = .bool (isF 16 s && isVF s x) ∧ σ' = S := by
 obtain ⟨k, ins⟩ := s
 obtain ⟨n, m, s, c, w⟩ := x
 refine mcalls_body Try.func24 rfl Try.ntmps24 (Nat.le_of_ble_eq_true rfl) ?_
 refine mwp_seq <| qR rfl <| qB rfl rfl rfl rfl rfl <| qB rfl rfl rfl rfl rfl <| qA rfl rfl rfl <| qN <| mwp_seq <| qR rfl <| qL rfl rfl rfl rfl ta36 rfl ?_
 refine wOps_op rfl (op_call rfl rfl rfl co22 ((Is_spec (.mk k ins) _).mono ?_))
 rintro _ _ ⟨rfl, rfl⟩
 refine qM rfl rfl rfl ?_
 refine wOps_case (fun h7 => ?_) (fun h7 => ?_)
 ·
  refine qL rfl rfl rfl rfl ta36 rfl <| qL rfl rfl rfl rfl ta29 rfl ?_
  refine wOps_op rfl (op_call rfl rfl rfl co49 ((isV_spec 16 (.mk k ins) h7 (.mk n m s c w) hx _).mono ?_))
  rintro _ _ ⟨rfl, rfl⟩
  refine qP rfl rfl rfl rfl <| qA rfl rfl rfl <| qN <| mwp_ret ?_
  exact ret_tmp (.inr rfl) Try.results24 rfl (.of_eq (by simp_all)) (.bool _) ⟨rfl, rfl⟩
 ·
  refine qS rfl <| qS rfl <| qS rfl <| qP rfl rfl rfl rfl <| qA rfl rfl rfl <| qN <| mwp_ret ?_
  exact ret_tmp (.inr rfl) Try.results24 rfl (.of_eq (by simp_all)) (.bool _) ⟨rfl, rfl⟩
end Go.Proofs.Ythkikhggmbiffaa
end
section
set_option linter.unusedVariables false
set_option linter.unusedSimpArgs false
set_option maxRecDepth 20000
set_option maxHeartbeats 400000
namespace Go.Proofs.Ythkikhggmbiffaa
open Go Go.MV Go.RowKit
structure PrAt (S : MS) (id t : Nat) (l : Bs) : Prop where
 ne : id ≠ t
 ob : ∃ p, (p = .ptr0 ∨ p = .ref id 0) ∧ S[id]? = some (.tcells 87 [p, .lst (some t) 1 (l.map encY)])
 row : S[t]? = some (.row 5 1 l.length)
theorem PrAt.idl {S : MS} {id t : Nat} {l : Bs} (h : PrAt S id t l) : id < S.length := by
 obtain ⟨p, _, hp⟩ := h.ob
 exact (List.getElem?_eq_some_iff.1 hp).1
theorem PrAt.tl {S : MS} {id t : Nat} {l : Bs} (h : PrAt S id t l) : t < S.length := (List.getElem?_eq_some_iff.1 h.row).1
theorem PrAt.pr {S : MS} {id t : Nat} {l : Bs} (h : PrAt S id t l) (m : Bs) : PrAt (pr S id t m) id t m := by
 refine ⟨h.ne, ⟨_, .inr rfl, ?_⟩, ?_⟩
 ·unfold Go.Proofs.Ythkikhggmbiffaa.pr prO
  exact get_neO h.ne.symm (by rw [List.getElem?_set_self h.idl])
 ·unfold Go.Proofs.Ythkikhggmbiffaa.pr
  rw [List.getElem?_set_self (by simpa using h.tl)]
theorem PrAt.sl {S : MS} {id t : Nat} {l : Bs} (h : PrAt S id t l) (L : MS) : PrAt (S ++ L) id t l := by
 obtain ⟨p, hp, ho⟩ := h.ob
 exact ⟨h.ne, ⟨p, hp, get_slO ho⟩, get_slO h.row⟩
theorem pr_sl {S : MS} {id t : Nat} {l m : Bs} (h : PrAt S id t l) (L : MS) : pr (S ++ L) id t m = pr S id t m ++ L := by
 unfold pr
 rw [List.set_append_left _ _ h.idl, List.set_append_left _ _ (by simpa using h.tl)]
theorem pr_pr {S : MS} {id t : Nat} {l m n : Bs} (h : PrAt S id t l) : pr (pr S id t m) id t n = pr S id t n := by
 unfold pr
 rw [List.set_comm _ _ h.ne.symm, List.set_set, List.set_set]
theorem write_at {S : MS} {id t : Nat} {l : Bs} (h : PrAt S id t l) (s : Bs) (hlen : l.length + s.length ≤ 10000000) (L : MS) : MCalls Try.prog 54 [.ref id 0, .str (bs s)] (S ++ L) fun v σ' => v = .tup [.int .i64 (s.length : Int), .iface0] ∧ σ' = pr S id t (l ++ s) ++ L := by
 obtain ⟨p, hp, ho⟩ := (h.sl L).ob
 refine (write_spec id t p hp l s h.ne _ ho (h.sl L).row hlen).mono fun v σ' hv => ⟨hv.1, ?_⟩
 rw [hv.2, pr_sl h]
def Writes (k : FuncId) (id t : Nat) (xs : List MV) (s : Bs) : Prop := ∀ (l : Bs) (S : MS), PrAt S id t l → l.length ≤ 1000000 → MCalls Try.prog k xs S fun v σ' => v = .tup [] ∧ σ' = pr S id t (l ++ s)
theorem Writes.sl {k : FuncId} {id t : Nat} {xs : List MV} {s l : Bs} (hw : Writes k id t xs s) {S : MS} (h : PrAt S id t l) (hl : l.length ≤ 1000000) (L : MS) : MCalls Try.prog k xs (S ++ L) fun v σ' => v = .tup [] ∧ σ' = pr S id t (l ++ s) ++ L :=
 (hw l (S ++ L) (h.sl L) hl).mono fun v σ' hv => ⟨hv.1, by rw [hv.2, pr_sl h]⟩
theorem flat_len {s : List Bs} (h : ∀ x ∈ s, x.length ≤ 1000) : ∀ i, ((s.take i).flatMap textB).length ≤ i * 1003
 | 0 => by simp
 | i + 1 => by
  have ih := flat_len h i
  rw [List.take_add_one, List.flatMap_append, List.length_append]
  cases hs : s[i]? with
  | none => simp only [Option.toList_none, List.flatMap_nil, List.length_nil]; omega
  | some x =>
   have hx := h x (List.mem_of_getElem? hs)
   have := (numB_len (show x.length < 2097152 by omega)).2
   simp only [Option.toList_some, List.flatMap_cons, List.flatMap_nil, List.append_nil, textB, List.length_append]
   omega
theorem flat_take {s : List Bs} {i : Nat} {x : Bs} (h : s[i]? = some x) : (s.take (i + 1)).flatMap textB = (s.take i).flatMap textB ++ textB x := by
 rw [List.take_add_one, h, List.flatMap_append]
 simp
theorem numB_len10 : ∀ k m : Nat, m < 128 ^ (k + 1) → (numB m).length ≤ k + 1
 | 0, m, h => by rw [numB_lo (by simpa using h)]; simp
 | k + 1, m, h => by
  by_cases hm : m < 128
  ·rw [numB_lo hm]; simp
  ·have := numB_len10 k (m / 128) (by rw [Nat.pow_succ] at h; omega)
   rw [numB_hi hm]
   simp
   exact this
theorem num_writes (id t n : Nat) (hn : n < 18446744073709551616) : Writes 53 id t [.ref id 0, .int .u64 (n : Int)] (numB n) := by
 intro l S h hl
 have hnl := numB_len10 9 n (by omega)
 refine mcalls_body Try.func53 rfl Try.ntmps53 (Nat.le_of_ble_eq_true rfl) ?_
 refine mwp_facts fun _ hcl => ?_
 rw [List.append_nil] at hcl
 refine mwp_draw [5] [_, pr S id t (l ++ numB n) ++ []] mo (by decide) rfl rfl rfl rfl ?_
 refine dOps_op rfl rfl (.cons (op_move rfl rfl ⟨rfl, rfl⟩) (.cons (op_move rfl rfl ⟨rfl, rfl⟩) (.nil))) <| dOps_op rfl rfl (.cons (op_nilCheck rfl rfl rfl ⟨rfl, rfl⟩) (.cons (op_nilCheck rfl rfl rfl ⟨rfl, rfl⟩) (.nil))) <| dO rfl rfl rfl (op_fieldAddr_ref rfl rfl fo87_0 ⟨rfl, rfl⟩) <| dOps_op rfl rfl (.cons (op_move rfl rfl ⟨rfl, rfl⟩) (.cons (op_move rfl rfl ⟨rfl, rfl⟩) (.nil))) <| dOps_op rfl rfl (.cons (op_call rfl rfl rfl co7 (codeNum_spec n hn (by omega) _)) .nil) ?_
 refine dOps_eff rfl rfl rfl rfl (op_call rfl rfl rfl co54 (write_at h (numB n) (by omega) [])) ?_
 refine dOps_nil ?_
 exact ret_noneS (by simp) Try.results53 (by rw [pr_len]; exact Nat.le_refl _) (cls_pr hcl h.idl h.tl) ⟨rfl, rfl⟩
def flatB (k : Int) : Val → Bs
 | .mk n _ s _ _ => if k = 3 then rowB textB s else numB n.toNat
theorem flat_writes (k : Int) (ins : List Sch) (hk : k = 1 ∨ k = 2 ∨ k = 3) (n m : Int) (s : List Bs) (c : List (List Tk)) (w : List Val) (hn : 0 ≤ n ∧ n < 18446744073709551616) (hsl : s.length ≤ 1000) (hs0 : ∀ x ∈ s, x.length ≤ 1000) (id t : Nat) : Writes 37 id t [.ref id 0, encS (.mk k ins), encV (.mk n m s c w)] (flatB k (.mk n m s c w)) := by
 intro l S h hl
 rcases hk with rfl | rfl | rfl
 ·
  obtain ⟨n, rfl⟩ : ∃ q : Nat, n = (q : Int) := ⟨n.toNat, by omega⟩
  refine mcalls_body Try.func37 rfl Try.ntmps37 (Nat.le_of_ble_eq_true rfl) ?_
  refine mwp_facts fun _ hcl => ?_
  rw [List.append_nil] at hcl
  have hlen' : s.length ≤ maxLen := by simp only [maxLen]; omega
  have hnb := numB_len10 9 s.length (by omega)
  refine mwp_seq <| qR rfl <| qB rfl rfl rfl rfl rfl <| qB rfl rfl rfl rfl rfl <| qN <| mwp_seq <| qR rfl <| qF rfl rfl rfl fo36_0 <| qO rfl <| op_load_own (by simp [pr_len]) rfl rfl rfl ta3 rfl ?_
  refine qN <| mwp_block <| mwp_seq <| mwp_seq <| qR rfl <| qC rfl rfl rfl rfl rfl <| qA rfl rfl rfl <| qN <| mwp_cond_t rfl (rfl) <| mwp_skip <| mwp_cond_t rfl (rfl) <| qR rfl <| qM rfl rfl rfl <| qF rfl rfl rfl fo29_0 <| qO rfl <| op_load_own (by simp [pr_len]) rfl rfl rfl ta22 rfl ?_
  refine wOps_op rfl (op_call rfl rfl rfl co53 (((num_writes id t n (by omega)).sl h hl _).mono ?_))
  rintro _ _ ⟨rfl, rfl⟩
  refine qN ?_
  exact ret_noneS (by simp) Try.results37 (by rw [pr_len]; exact Nat.le_refl _) (cls_pr hcl h.idl h.tl) ⟨rfl, rfl⟩
 ·
  obtain ⟨n, rfl⟩ : ∃ q : Nat, n = (q : Int) := ⟨n.toNat, by omega⟩
  refine mcalls_body Try.func37 rfl Try.ntmps37 (Nat.le_of_ble_eq_true rfl) ?_
  refine mwp_facts fun _ hcl => ?_
  rw [List.append_nil] at hcl
  have hlen' : s.length ≤ maxLen := by simp only [maxLen]; omega
  have hnb := numB_len10 9 s.length (by omega)
  refine mwp_seq <| qR rfl <| qB rfl rfl rfl rfl rfl <| qB rfl rfl rfl rfl rfl <| qN <| mwp_seq <| qR rfl <| qF rfl rfl rfl fo36_0 <| qO rfl <| op_load_own (by simp [pr_len]) rfl rfl rfl ta3 rfl ?_
  refine qN <| mwp_block <| mwp_seq <| mwp_seq <| qR rfl <| qC rfl rfl rfl rfl rfl <| qA rfl rfl rfl <| qN <| mwp_cond_f rfl (rfl) <| qR rfl <| qC rfl rfl rfl rfl rfl <| qA rfl rfl rfl <| qN <| mwp_cond_t rfl (rfl) <| qR rfl <| qM rfl rfl rfl <| qF rfl rfl rfl fo29_0 <| qO rfl <| op_load_own (by simp [pr_len]) rfl rfl rfl ta22 rfl ?_
  refine wOps_op rfl (op_call rfl rfl rfl co53 (((num_writes id t n (by omega)).sl h hl _).mono ?_))
  rintro _ _ ⟨rfl, rfl⟩
  refine qN ?_
  exact ret_noneS (by simp) Try.results37 (by rw [pr_len]; exact Nat.le_refl _) (cls_pr hcl h.idl h.tl) ⟨rfl, rfl⟩
 ·
  obtain ⟨n, rfl⟩ : ∃ q : Nat, n = (q : Int) := ⟨n.toNat, by omega⟩
  refine mcalls_body Try.func37 rfl Try.ntmps37 (Nat.le_of_ble_eq_true rfl) ?_
  refine mwp_facts fun _ hcl => ?_
  rw [List.append_nil] at hcl
  have hlen' : s.length ≤ maxLen := by simp only [maxLen]; omega
  have hnb := numB_len10 9 s.length (by omega)
  refine mwp_seq <| qR rfl <| qB rfl rfl rfl rfl rfl <| qB rfl rfl rfl rfl rfl <| qN <| mwp_seq <| qR rfl <| qF rfl rfl rfl fo36_0 <| qO rfl <| op_load_own (by simp [pr_len]) rfl rfl rfl ta3 rfl ?_
  refine qN <| mwp_block <| mwp_seq <| mwp_seq <| qR rfl <| qC rfl rfl rfl rfl rfl <| qA rfl rfl rfl <| qN <| mwp_cond_f rfl (rfl) <| qR rfl <| qC rfl rfl rfl rfl rfl <| qA rfl rfl rfl <| qN <| mwp_cond_f rfl (rfl) <| mwp_seq <| mwp_seq <| qR rfl <| qC rfl rfl rfl rfl rfl <| qA rfl rfl rfl <| qN <| mwp_cond_t rfl (rfl) <| mwp_skip <| mwp_cond_t rfl (rfl) <| mwp_seq ?_
  refine qR rfl <| qM rfl rfl rfl <| qF rfl rfl rfl fo29_2 <| qO rfl <| op_load_own (by simp [pr_len]) rfl rfl rfl ta25 rfl ?_
  refine qE rfl rfl Try.underlying25 rfl <| qO rfl <| op_convInt rfl Try.underlying3 Try.underlying22 rfl (wrap_u64 (by rw [List.length_map]; omega)) ?_
  rw [List.length_map]
  refine wOps_op rfl (op_call rfl rfl rfl co53 (((num_writes id t s.length (by omega)).sl h hl _).mono ?_))
  rintro _ _ ⟨rfl, rfl⟩
  refine qN <| mwp_seq <| qR rfl <| qF rfl rfl rfl fo29_2 <| qO rfl <| op_load_own (by simp [pr_len]) rfl rfl rfl ta25 rfl ?_
  refine qE rfl rfl Try.underlying25 rfl <| qM rfl rfl rfl <| qN <| mwp_block ?_
  show mwp _ _ _ _ _ _ _ (([] : MS) ++ (pr S id t (l ++ numB s.length) ++ [.cells (encS (.mk 3 ins)).cells, .cells (encV (.mk n m s c w)).cells]))
  refine mwp_loopK (α := Nat) [(0, _), (4, _), (5, _), (61, _), (62, _)] (fun i => [(63, .int .i64 (i : Int))]) (fun i => (pr S id t (l ++ numB s.length ++ (s.take i).flatMap textB) ++ [.cells (encS (.mk 3 ins)).cells, .cells (encV (.mk n m s c w)).cells])) (fun i => i ≤ s.length) (fun i => s.length - i) (0) (.keep rfl (.keep rfl (.keep rfl (.keep rfl (.keep rfl (.nil)))))) (.keep rfl (.nil)) (by omega) (by simp) ?_
  rintro i hi
  show mwp _ _ _ _ _ _ _ (pr S id t (l ++ numB s.length ++ (s.take i).flatMap textB) ++ [.cells (encS (.mk 3 ins)).cells, .cells (encV (.mk n m s c w)).cells])
  have hw := h.pr (l ++ numB s.length ++ (s.take i).flatMap textB)
  have hfl := flat_len hs0 i
  refine mwp_seq <| qR rfl <| qC rfl rfl rfl rfl rfl <| qN <| mwp_seq ?_
  refine mwp_cond_split rfl (fun h64 => ?_) (fun h64 => ?_)
  ·
   have hlt : i < s.length := by simpa using h64
   obtain ⟨x, hs⟩ : ∃ q_, s[i]? = some q_ := ⟨_, List.getElem?_eq_getElem hlt⟩
   refine mwp_skip <| mwp_seq <| mwp_block <| mwp_seq <| qR rfl <| qM rfl rfl rfl <| qO rfl <| op_indexAddr rfl Try.underlying25 sz9 (by decide) rfl rfl rfl (get_map hs) ?_
   refine qO rfl <| op_load_sptr rfl rfl ta9 rfl <| qA rfl rfl rfl <| qA rfl rfl rfl <| qN <| mwp_seq ?_
   have hx := hs0 x (List.mem_of_getElem? hs)
   have hxl := (numB_len (show x.length < 2097152 by omega)).2
   have hxt : (textB x).length = (numB x.length).length + x.length := by simp [textB]
   refine mwp_draw [5] [_, pr S id t (l ++ numB s.length ++ (s.take (i + 1)).flatMap textB) ++ [.cells (encS (.mk 3 ins)).cells, .cells (encV (.mk n m s c w)).cells]] mo (by decide) rfl rfl rfl rfl ?_
   refine dOps_op rfl rfl (.cons (op_move rfl rfl ⟨rfl, rfl⟩) (.cons (op_move rfl rfl ⟨rfl, rfl⟩) (.nil))) <| dOps_op rfl rfl (.cons (op_nilCheck rfl rfl rfl ⟨rfl, rfl⟩) (.cons (op_nilCheck rfl rfl rfl ⟨rfl, rfl⟩) (.nil))) <| dO rfl rfl rfl (op_fieldAddr_ref rfl rfl fo87_0 ⟨rfl, rfl⟩) <| dOps_op rfl rfl (.cons (op_move rfl rfl ⟨rfl, rfl⟩) (.cons (op_move rfl rfl ⟨rfl, rfl⟩) (.nil))) <| dOps_op rfl rfl (.cons (op_call rfl rfl rfl co21 (codeText_spec x (by omega) _)) .nil) ?_
   refine dOps_eff rfl rfl rfl rfl (op_call rfl rfl rfl co54 (((write_at hw (textB x) (by simp only [List.length_append]; omega) _).mono fun v σ' hv => ⟨hv.1, hv.2.trans (by rw [pr_pr h, flat_take hs, ← List.append_assoc])⟩))) ?_
   refine dOps_nil <| mwp_seq <| qR rfl <| qF rfl rfl rfl fo36_0 <| qO rfl <| op_load_own (by simp [pr_len]) rfl rfl rfl ta3 rfl ?_
   refine qC rfl rfl rfl rfl rfl <| qN <| mwp_cond_f rfl (rfl) <| mwp_skip <| qR rfl <| qO rfl <| op_arith rfl rfl rfl rfl <| qM rfl rfl rfl <| qN ?_
   refine ⟨i + 1, by omega, by omega, rfl, (.keep rfl (.keep rfl (.keep rfl (.keep rfl (.keep rfl (.nil)))))), (.eq rfl (int_succ hlt hlen') (.nil))⟩
  ·
   have hge : i = s.length := by simp at h64; omega
   refine mwp_exit ?_
   exact ret_noneS (by simp) Try.results37 (by rw [pr_len]; exact Nat.le_refl _) (cls_pr hcl h.idl h.tl) ⟨rfl, by rw [hge, List.take_length, flatB, if_pos rfl, rowB, List.append_assoc]⟩
theorem op_boxT' {P : Program} {rd : Option Nat} {o : Oper} {env : Env} {K : MV → MS → Prop} {S L L' : MS} {t k : Nat} {x : Operand} {m : MV} (ho : o.op = .box t x) (hx : evo env x = some m) (hk : L.length = k) (hL : L ++ [.tcells t m.cells] = L') (h : K (.ref (S.length + k) 0) (S ++ L')) : OpWp P rd o env (S ++ L) K := by
 refine op_boxT ho hx ?_
 subst hk; subst hL
 rw [List.length_append, List.append_assoc]
 exact h
theorem bytes_spec (sc : Sch) (x : Val) (B : Bs) (hok : okV x) (hyes : (isF 16 sc && isVF sc x) = true) (hB : B ≠ []) (hBl : B.length ≤ 10000000) (hw : ∀ id t, Writes 37 id t [.ref id 0, encS sc, encV x] B) (S : MS) : MCalls Try.prog 19 [encS sc, encV x] S fun v σ' => v = .str (bs B) ∧ σ' = S := by
 obtain ⟨k, ins⟩ := sc
 obtain ⟨n, m, s, c, w⟩ := x
 refine mcalls_body Try.func19 rfl Try.ntmps19 (Nat.le_of_ble_eq_true rfl) ?_
 refine mwp_facts fun _ hcl => ?_
 rw [List.append_nil] at hcl
 refine mwp_seq <| qR rfl <| qB rfl rfl rfl rfl rfl <| qB rfl rfl rfl rfl rfl <| qA rfl rfl rfl <| qN <| mwp_seq <| mwp_seq <| qR rfl <| qL rfl rfl rfl rfl ta36 rfl <| qL rfl rfl rfl rfl ta29 rfl ?_
 refine wOps_op rfl (op_call rfl rfl rfl co24 ((valIs_spec (.mk k ins) (.mk n m s c w) hok _).mono ?_))
 rintro _ _ ⟨rfl, rfl⟩
 refine qO rfl <| op_not rfl rfl <| qN <| mwp_cond_f rfl (by rw [hyes]; rfl) ?_
 refine mwp_skip <| mwp_seq <| qR rfl <| qO rfl <| op_build rfl Try.underlying87 zm87 .nil (by kernel_rfl) ?_
 refine qO rfl <| op_boxT' (k := 2) rfl rfl rfl rfl <| qA rfl rfl rfl <| qN <| mwp_seq <| mwp_cellrowT 2 1 5 1 rfl rfl (Nat.le_refl _) rfl rfl ?_
 show mwp _ _ _ _ _ _ _ (S ++ [MObj.cells (encS (.mk k ins)).cells, MObj.cells (encV (.mk n m s c w)).cells, MObj.tcells 87 [.ptr0, .lst (some (S.length + 3)) 1 []], MObj.row 5 1 0])
 have hpa : PrAt (S ++ [MObj.cells (encS (.mk k ins)).cells, MObj.cells (encV (.mk n m s c w)).cells, MObj.tcells 87 [.ptr0, .lst (some (S.length + 3)) 1 []], MObj.row 5 1 0]) (S.length + 2) (S.length + 3) [] := ⟨by omega, ⟨_, .inl rfl, by rw [getElem?_own]; rfl⟩, by rw [getElem?_own]; rfl⟩
 have hpb := hpa.pr B
 obtain ⟨p, hp, hob0⟩ := hpb.ob
 have hrw := hpb.row
 have hob : (pr (S ++ [MObj.cells (encS (.mk k ins)).cells, MObj.cells (encV (.mk n m s c w)).cells, MObj.tcells 87 [.ptr0, .lst (some (S.length + 3)) 1 []], MObj.row 5 1 0]) (S.length + 2) (S.length + 3) B)[S.length + 2]? = some (.tcells 87 [.ref (S.length + 2) 0, .lst (some (S.length + 3)) 1 (B.map encY)]) := by
  unfold pr prO
  exact get_neO (by omega) (by rw [List.getElem?_set_self (by simp)])
 refine qR rfl <| qM rfl rfl rfl <| qL rfl rfl rfl rfl ta36 rfl <| qL rfl rfl rfl rfl ta29 rfl ?_
 refine wOps_op rfl (op_call rfl rfl rfl co37 ((hw (S.length + 2) (S.length + 3) [] (S ++ [MObj.cells (encS (.mk k ins)).cells, MObj.cells (encV (.mk n m s c w)).cells, MObj.tcells 87 [.ptr0, .lst (some (S.length + 3)) 1 []], MObj.row 5 1 0]) hpa (by simp)).mono ?_))
 rintro _ _ ⟨rfl, rfl⟩
 refine qN <| mwp_seq <| qR rfl <| qM rfl rfl rfl <| qO rfl <| op_nilCheck rfl rfl rfl <| qF rfl rfl rfl fo87_0 ?_
 refine wOps_op rfl (op_call rfl rfl rfl co38 ((string_spec (S.length + 2) (S.length + 3) B hB (by omega) _ hob hrw hBl).mono ?_))
 rintro _ _ ⟨rfl, rfl⟩
 refine qA rfl rfl rfl <| qN <| mwp_ret ?_
 have hE : (pr (S ++ [MObj.cells (encS (.mk k ins)).cells, MObj.cells (encV (.mk n m s c w)).cells, MObj.tcells 87 [.ptr0, .lst (some (S.length + 3)) 1 []], MObj.row 5 1 0]) (S.length + 2) (S.length + 3) B).set (S.length + 3) .gone = S ++ [.cells (encS (.mk k ins)).cells, .cells (encV (.mk n m s c w)).cells, prO (S.length + 2) (S.length + 3) B, .gone] := by
  unfold pr
  rw [List.set_set, set_own, set_own]
  rfl
 rw [hE]
 exact ret_tmp (.inr rfl) Try.results19 rfl (.refl _) (.str _) ⟨rfl, rfl⟩
end Go.Proofs.Ythkikhggmbiffaa
end
section
set_option linter.unusedVariables false
set_option linter.unusedSimpArgs false
set_option maxRecDepth 20000
set_option maxHeartbeats 400000
namespace Go.Proofs.Ythkikhggmbiffaa
open Go Go.MV Go.RowKit
mutual
def schB : Sch → Bs
 | .mk k ins => numB k.toNat ++ schBs ins
def schBs : List Sch → Bs
 | [] => []
 | s :: l => schB s ++ schBs l
end
theorem schBs_eq : ∀ l : List Sch, schBs l = l.flatMap schB
 | [] => by simp [schBs]
 | s :: l => by simp [schBs, schBs_eq l]
theorem schBs_succ {l : List Sch} {i : Nat} {s : Sch} (h : l[i]? = some s) : schBs (l.take (i + 1)) = schBs (l.take i) ++ schB s := by
 rw [schBs_eq, schBs_eq, List.take_add_one, h, List.flatMap_append]
 simp
theorem k8_nat {k : Int} {m : Nat} (h : partsF k = (m : Int)) : ∃ q : Nat, k = (q : Int) ∧ 1 ≤ q ∧ q ≤ 8 ∧ m ≤ 2 := by
 rcases k8_of h with rfl | rfl | rfl | rfl | rfl | rfl | rfl | rfl
 all_goals (refine ⟨_, rfl, by decide, by decide, ?_⟩; simp [partsF] at h; try omega)
theorem schB_len : ∀ (d : Nat) (s : Sch), isF d s = true → (schB s).length < 2 ^ d
 | 0, s, h => by simp [isF] at h
 | d + 1, .mk k ins, h => by
  rw [isF] at h
  simp only [Bool.and_eq_true, List.all_eq_true, beq_iff_eq] at h
  obtain ⟨q, rfl, h1, h8, hm⟩ := k8_nat h.1
  have hq : (numB q).length = 1 := by rw [numB_lo (by omega), List.length_singleton]
  have hp : 2 ^ (d + 1) = 2 ^ d + 2 ^ d := by rw [Nat.pow_succ]; omega
  rw [schB, List.length_append, show ((q : Int)).toNat = q from rfl, hq]
  match ins, h.2, hm with
  | [], _, _ => have := Nat.two_pow_pos d; simp only [schBs, List.length_nil]; omega
  | [a], ha, _ => have := schB_len d a (ha a (by simp)); simp only [schBs, List.length_append, List.length_nil]; omega
  | [a, b], ha, _ => have h1 := schB_len d a (ha a (by simp)); have h2 := schB_len d b (ha b (by simp)); simp only [schBs, List.length_append, List.length_nil]; omega
theorem schBs_take_len {d : Nat} {l : List Sch} (h : ∀ x ∈ l, isF d x = true) (i : Nat) : (schBs (l.take i)).length ≤ l.length * 2 ^ d := by
 induction i with
 | zero => simp [schBs]
 | succ i _ =>
  have : ∀ m : List Sch, (∀ x ∈ m, isF d x = true) → (schBs m).length ≤ m.length * 2 ^ d := by
   intro m
   induction m with
   | nil => intro _; simp [schBs]
   | cons a m ih =>
    intro hm
    have h1 := schB_len d a (hm a (.head _))
    have h2 := ih fun x hx => hm x (.tail _ hx)
    rw [schBs, List.length_append, List.length_cons, Nat.succ_mul]
    omega
  refine Nat.le_trans (this _ fun x hx => h x (List.mem_of_mem_take hx)) (Nat.mul_le_mul_right _ ?_)
  rw [List.length_take]
  exact Nat.min_le_right _ _
theorem inner_spec (d : Nat) : d ≤ 16 → ∀ (s : Sch), isF d s = true → ∀ S : MS, MCalls Try.prog 36 [encS s] S fun v σ' => v = .str (bs (schB s)) ∧ σ' = S := by
 induction d with
 | zero => intro _ s h; simp [isF] at h
 | succ d ih =>
 rintro hd ⟨k, ins⟩ hs0 S
 rw [isF] at hs0
 simp only [Bool.and_eq_true, List.all_eq_true, beq_iff_eq] at hs0
 obtain ⟨q, rfl, h1, h8, hm2⟩ := k8_nat hs0.1
 have hlen' : ins.length ≤ maxLen := by simp only [maxLen]; omega
 have hq : (numB q).length = 1 := by rw [numB_lo (by omega), List.length_singleton]
 have hpow : 2 ^ d ≤ 65536 := Nat.pow_le_pow_right (by omega) (show d ≤ 16 by omega)
 refine mcalls_body Try.func36 rfl Try.ntmps36 (Nat.le_of_ble_eq_true rfl) ?_
 refine mwp_seq <| qR rfl <| qB rfl rfl rfl rfl rfl <| qA rfl rfl rfl <| qN <| mwp_seq <| qR rfl <| qF rfl rfl rfl fo36_0 <| qL rfl rfl rfl rfl ta3 rfl <| qO rfl <| op_convInt rfl Try.underlying3 Try.underlying22 rfl (wrap_u64 (by omega)) ?_
 refine wOps_op rfl (op_call rfl rfl rfl co7 ((codeNum_spec q (by omega) (by omega) _).mono ?_))
 rintro _ _ ⟨rfl, rfl⟩
 refine qA rfl rfl rfl <| qN <| mwp_seq <| mwp_seq <| qR rfl <| qF rfl rfl rfl fo36_1 <| qL rfl rfl rfl rfl ta34 rfl <| qE rfl rfl Try.underlying34 rfl <| qM rfl rfl rfl <| qN <| mwp_block ?_
 refine mwp_loopKJ (α := Nat) [(11, _), (12, _)] (fun i => [(3, .str (bs (numB q ++ schBs (ins.take i)))), (13, .int .i64 (i : Int))]) (fun i => [.cells (encS (.mk (q : Int) ins)).cells]) (fun i => i ≤ ins.length) (fun i => ins.length - i) (0) (Nat.le_refl _) (.keep rfl (.keep rfl (.nil))) (.eq rfl (by simp [schBs]) (.keep rfl (.nil))) (by omega) (rfl) ?_
 rintro i hi
 refine mwp_seq <| qR rfl <| qC rfl rfl rfl rfl rfl <| qN <| mwp_seq ?_
 refine mwp_cond_split rfl (fun h14 => ?_) (fun h14 => ?_)
 ·
  rw [encSs_length] at h14
  have hlt : i < ins.length := by simpa using h14
  obtain ⟨⟨k1, i1⟩, hs⟩ : ∃ q_, ins[i]? = some q_ := ⟨_, List.getElem?_eq_getElem hlt⟩
  have hl1 := schB_len d _ (hs0.2 _ (List.mem_of_getElem? hs))
  have hl2 := schBs_take_len hs0.2 i
  have hl3 := Nat.mul_le_mul_right (2 ^ d) hm2
  refine mwp_skip <| mwp_seq <| mwp_block <| mwp_seq <| qR rfl <| qO rfl <| op_indexAddr rfl Try.underlying34 sz36 (by decide) rfl rfl rfl (encSs_get hs) ?_
  refine qO rfl <| op_load_sptr rfl rfl ta36 rfl <| qO rfl <| op_alloc' rfl zm36 rfl rfl <| qO rfl <| op_store' rfl rfl rfl rfl sz36 rfl rfl (Nat.le_of_ble_eq_true rfl) rfl <| qN <| qR rfl <| qM rfl rfl rfl <| qL rfl rfl rfl rfl ta36 rfl ?_
  refine wOps_op rfl (op_call rfl rfl rfl co36 ((ih (by omega) (.mk k1 i1) (hs0.2 _ (List.mem_of_getElem? hs)) _).mono ?_))
  rintro _ _ ⟨rfl, rfl⟩
  refine qO rfl <| op_strcat rfl rfl rfl (by simp only [List.length_append]; omega) ?_
  refine qA rfl rfl rfl <| qN <| qR rfl <| qO rfl <| op_arith rfl rfl rfl rfl <| qM rfl rfl rfl <| qN ?_
  refine ⟨i + 1, _, by omega, by omega, rfl, .refl _ _, (.old rfl rfl (.old rfl rfl (.nil))), (.new' rfl (by rw [schBs_succ hs, List.append_assoc]) (.str _) (.new' rfl (int_succ hlt hlen') (.int _ _) (.nil)))⟩
 ·
  rw [encSs_length] at h14
  have hge : i = ins.length := by simp at h14; omega
  refine mwp_exit <| mwp_seq <| qR rfl <| qM rfl rfl rfl <| qA rfl rfl rfl <| qN <| mwp_ret ?_
  exact ret_tmp (.inr rfl) Try.results36 rfl (.of_eq (by rw [hge, List.take_length]; rfl)) (.str _) ⟨rfl, rfl⟩
theorem schema_spec (s : Sch) (h : isF 16 s = true) (S : MS) : MCalls Try.prog 18 [encS s] S fun v σ' => v = .str (bs (schB s)) ∧ σ' = S := by
 obtain ⟨k, ins⟩ := s
 refine mcalls_body Try.func18 rfl Try.ntmps18 (Nat.le_of_ble_eq_true rfl) ?_
 refine mwp_seq <| qR rfl <| qB rfl rfl rfl rfl rfl <| qA rfl rfl rfl <| qN <| mwp_seq <| mwp_seq <| qR rfl <| qL rfl rfl rfl rfl ta36 rfl ?_
 refine wOps_op rfl (op_call rfl rfl rfl co22 ((Is_spec (.mk k ins) _).mono ?_))
 rintro _ _ ⟨rfl, rfl⟩
 refine qO rfl <| op_not rfl rfl <| qN <| mwp_cond_f rfl (by rw [h]; rfl) ?_
 refine mwp_skip <| mwp_seq <| qR rfl <| qL rfl rfl rfl rfl ta36 rfl ?_
 refine wOps_op rfl (op_call rfl rfl rfl co36 ((inner_spec 16 (by omega) (.mk k ins) h _).mono ?_))
 rintro _ _ ⟨rfl, rfl⟩
 refine qA rfl rfl rfl <| qN <| mwp_ret ?_
 exact ret_tmp (.inr rfl) Try.results18 rfl (.of_eq (rfl)) (.str _) ⟨rfl, rfl⟩
end Go.Proofs.Ythkikhggmbiffaa
end
