/-
  Walks of values, fourth part: how great one is; and the document's values: the same, nothing, how great (layer 4).
-/
import Derived.Test.YtihpnfpdocnniaaValC
import Derived.Test.YtihpnfpdocnniaaSchV
import Derived.Test.YtihpnfpdocnniaaClkB
set_option linter.unusedVariables false
set_option linter.unusedSimpArgs false
set_option maxHeartbeats 400000
namespace Go.Proofs.Ytihpnfpdocnniaa
open Go Go.MV


theorem valIs_spec (s : Sch) (x : Val) (hx : okV x) (S : MS) : MCalls Try.prog 9 [encS s, encV x] S fun v σ' => v = .bool (isF 16 s && isVF s x) ∧ σ' = S := by
  obtain ⟨k, ins⟩ := s
  obtain ⟨n, m, s, c, w⟩ := x
  refine mcalls_body Try.func9 rfl Try.ntmps9 (Nat.le_of_ble_eq_true rfl) ?_
  refine mwp_seq ?_
  refine mwp_region rfl ?_
  refine wOps_op rfl (op_box' rfl rfl rfl rfl ?_)
  refine wOps_op rfl (op_box' rfl rfl rfl rfl ?_)
  refine wOps_op rfl (op_assign rfl rfl ?_)
  refine wOps_nil ?_
  refine mwp_seq ?_
  refine mwp_region rfl ?_
  refine wOps_op rfl (op_load' rfl rfl rfl ta24 rfl ?_)
  refine wOps_op rfl (op_call rfl rfl rfl co21 ((Is_spec (.mk k ins) _).mono ?_))
  rintro _ _ ⟨rfl, rfl⟩
  refine wOps_op rfl (op_move rfl rfl ?_)
  refine wOps_case (fun h7 => ?_) (fun h7 => ?_)
  ·
    refine wOps_op rfl (op_load' rfl rfl rfl ta24 rfl ?_)
    refine wOps_op rfl (op_load' rfl rfl rfl ta30 rfl ?_)
    refine wOps_op rfl (op_call rfl rfl rfl co22 ((isV_spec 16 (.mk k ins) h7 (.mk n m s c w) hx _).mono ?_))
    rintro _ _ ⟨rfl, rfl⟩
    refine wOps_op rfl (op_pick rfl rfl rfl ?_)
    refine wOps_op rfl (op_assign rfl rfl ?_)
    refine wOps_nil ?_
    refine mwp_ret ?_
    exact ret_tmp (.inr rfl) Try.results9 rfl (.of_eq (by simp_all)) (.bool _) ⟨rfl, rfl⟩
  ·
    refine wOps_skip rfl ?_
    refine wOps_skip rfl ?_
    refine wOps_skip rfl ?_
    refine wOps_op rfl (op_pick rfl rfl rfl ?_)
    refine wOps_op rfl (op_assign rfl rfl ?_)
    refine wOps_nil ?_
    refine mwp_ret ?_
    exact ret_tmp (.inr rfl) Try.results9 rfl (.of_eq (by simp_all)) (.bool _) ⟨rfl, rfl⟩

theorem values_iter (l : List Val) (hlen : l.length ≤ maxLen) (bid l0 : Nat) : IterOk Try.prog 50 [] [.ref bid 0] (l.map fun x => [encV x]) (fun σ => (σ.length = l0 ∧ σ[bid]? = some (.cells [.lst none 5 (encVs l)])) ∧ ClS σ) := by
  refine iterOk_of fun id T m hok hm hyt hyf => ?_
  have hml : (l.map fun x => [encV x]).length = l.length := List.length_map ..
  refine mcalls_body Try.func50 rfl Try.ntmps50 (Nat.le_of_ble_eq_true rfl) ?_
  rw [List.append_nil]
  show mwp _ _ _ _ _ _ _ (([] : MS) ++ T 0)
  refine mwp_seq ?_
  refine mwp_region rfl ?_
  refine wOps_op rfl (op_load_ref rfl rfl (hok _).1.2 ta28 rfl ?_)
  refine wOps_op rfl (op_len_lst rfl Try.underlying28 rfl ?_)
  refine wOps_op rfl (op_move rfl rfl ?_)
  refine wOps_nil ?_
  refine mwp_block ?_
  refine mwp_loopK (α := Nat × MS) [(0, _), (5, _), (6, _)] (fun x => [(7, .int .i64 (x.1 : Int))]) (fun x => T x.1 ++ x.2) (fun x => x.1 ≤ m) (fun x => l.length - x.1) (⟨0, []⟩) (.keep rfl (.keep rfl (.keep rfl (.nil)))) (.keep rfl (.nil)) (by simp) (by rw [List.append_nil]) ?_
  rintro ⟨j, J⟩ hj
  dsimp only at hj ⊢
  refine mwp_seq ?_
  refine mwp_region rfl ?_
  refine wOps_op rfl (op_cmp rfl rfl rfl rfl ?_)
  refine wOps_nil ?_
  refine mwp_seq ?_
  refine mwp_cond_split rfl (fun h8 => ?_) (fun h8 => ?_)
  · -- yes
    rw [encVs_length] at h8
    have hlt : j < l.length := by simpa using h8
    obtain ⟨⟨n1, m1, s1, c1, w1⟩, hs⟩ : ∃ x, l[j]? = some x := ⟨_, List.getElem?_eq_getElem hlt⟩
    have hy : (l.map fun x => [encV x])[j]? = some [encV (.mk n1 m1 s1 c1 w1)] := by rw [List.getElem?_map, hs]; rfl
    refine mwp_skip ?_
    refine mwp_seq ?_
    refine mwp_block ?_
    refine mwp_seq ?_
    refine mwp_region rfl ?_
    refine wOps_op rfl (op_indexAddr rfl Try.underlying28 sz30 (by decide) rfl rfl rfl (encVs_get hs) ?_)
    refine wOps_op rfl (op_load_sptr rfl rfl ta30 rfl ?_)
    refine wOps_op rfl (op_alloc rfl zm30 ?_)
    refine wOps_op rfl (op_store_last rfl rfl rfl sz30 rfl rfl (Nat.le_of_ble_eq_true rfl) ?_)
    refine wOps_nil ?_
    refine mwp_seq ?_
    rcases Nat.lt_or_eq_of_le hj with hjm | hjm
    ·
      refine mwp_region rfl ?_
      refine wOps_op rfl (op_move rfl rfl ?_)
      refine wOps_op rfl (op_load_last rfl rfl ta30 rfl ?_)
      refine wOps_op rfl ((hyt j _ hjm hy).at2 rfl rfl rfl ?_)
      refine wOps_op rfl (op_not rfl rfl ?_)
      refine wOps_nil ?_
      refine mwp_cond_f rfl (rfl) ?_
      refine mwp_skip ?_
      refine mwp_region rfl ?_
      refine wOps_op rfl (op_arith rfl rfl rfl rfl ?_)
      refine wOps_op rfl (op_move rfl rfl ?_)
      refine wOps_nil ?_
      refine ⟨⟨j + 1, J ++ [_]⟩, by dsimp only; omega, by dsimp only; omega, List.append_assoc .., (.keep rfl (.keep rfl (.keep rfl (.nil)))), (.eq rfl (int_succ hlt hlen) (.nil))⟩
    ·
      refine mwp_region rfl ?_
      refine wOps_op rfl (op_move rfl rfl ?_)
      refine wOps_op rfl (op_load_last rfl rfl ta30 rfl ?_)
      refine wOps_op rfl ((hyf j _ hjm hy).at2 rfl rfl rfl ?_)
      refine wOps_op rfl (op_not rfl rfl ?_)
      refine wOps_nil ?_
      refine mwp_cond_t rfl (rfl) ?_
      refine mwp_ret ?_
      rw [List.append_assoc]
      exact ret_noneS (S' := T (j + 1)) (by simp) Try.results50 (by rw [(hok _).1.1, (hok _).1.1]; exact Nat.le_refl _) (hok _).2 ⟨rfl, by rw [hjm, if_pos (by omega)]⟩
  · -- no
    rw [encVs_length] at h8
    have hge : j = l.length := by simp at h8; omega
    have hjm : j = m := by omega
    refine mwp_exit ?_
    exact ret_noneS (S' := T j) (by simp) Try.results50 (by rw [(hok _).1.1, (hok _).1.1]; exact Nat.le_refl _) (hok _).2 ⟨rfl, by rw [hjm, if_neg (by omega)]⟩

theorem values_spec (l : List Val) (S : MS) : MCalls Try.prog 31 [.lst none 5 (encVs l)] S fun v σ' => v = .fn (.func 50) [] [.ref S.length 0] ∧ σ' = S ++ [.cells [.lst none 5 (encVs l)]] := by
  refine mcalls_body Try.func31 rfl Try.ntmps31 (Nat.le_of_ble_eq_true rfl) ?_
  refine mwp_seq ?_
  refine mwp_region rfl ?_
  refine wOps_op rfl (op_box' rfl rfl rfl rfl ?_)
  refine wOps_op rfl (op_assign rfl rfl ?_)
  refine wOps_nil ?_
  refine mwp_seq ?_
  refine mwp_region rfl ?_
  refine wOps_op rfl (op_makeFunc rfl rfl rfl ?_)
  refine wOps_op rfl (op_assign rfl rfl ?_)
  refine wOps_nil ?_
  refine mwp_facts fun hcv hcl => ?_
  refine mwp_ret ?_
  exact ret_tmpT (.inr rfl) Try.results31 rfl (.refl _) (hcv 2 _ rfl) (by simp) hcl ⟨rfl, rfl⟩

theorem size_cl {n m k : Int} {s : List Bs} {c : List (List Tk)} {w : List Val} {o : MObj} {d : Nat} (ho : o ∈ [MObj.cells (encV (.mk n m s c w)).cells, .cells [.int .i64 k], .cells [.lst none 5 (encVs w)]]) : o.cl d := by
  simp only [List.mem_cons, List.not_mem_nil, or_false] at ho
  rcases ho with rfl | rfl | rfl
  · intro x hx
    have h := cl_encV d (.mk n m s c w)
    cases h with
    | agg _ h => exact h x hx
  · intro x hx
    simp at hx
    subst hx
    exact .int _ _
  · intro x hx
    simp at hx
    subst hx
    exact cl_encVl _ _


theorem size_spec (d : Nat) : ∀ x : Val, vdepth x ≤ d → ∀ S : MS, MCalls Try.prog 17 [encV x] S fun v σ' => v = .int .i64 (sizeF x) ∧ σ' = S := by
  induction d with
  | zero => rintro ⟨n, m, s, c, w⟩ h; simp [vdepth] at h
  | succ d ih =>
  rintro ⟨n, m, s, c, w⟩ hd S
  have hmem : ∀ x ∈ w, vdepth x ≤ d := fun x hx => by have := vdepth_mem hx; rw [vdepth] at hd; omega
  refine mcalls_body Try.func17 rfl Try.ntmps17 (Nat.le_of_ble_eq_true rfl) ?_
  refine mwp_seq ?_
  refine mwp_region rfl ?_
  refine wOps_op rfl (op_box' rfl rfl rfl rfl ?_)
  refine wOps_op rfl (op_assign rfl rfl ?_)
  refine wOps_nil ?_
  refine mwp_seq ?_
  refine mwp_region rfl ?_
  refine wOps_op rfl (op_alloc' rfl zm3 rfl rfl ?_)
  refine wOps_op rfl (op_store' rfl rfl rfl rfl sz3 rfl rfl (Nat.le_of_ble_eq_true rfl) rfl ?_)
  refine wOps_nil ?_
  refine mwp_seq ?_
  refine mwp_seq ?_
  refine mwp_region rfl ?_
  refine wOps_op rfl (op_fieldAddr_ref rfl rfl fo30_4 ?_)
  refine wOps_op rfl (op_load' rfl rfl rfl ta28 rfl ?_)
  refine wOps_op rfl (op_call rfl rfl rfl co31 ((values_spec w _).mono ?_))
  rintro _ _ ⟨rfl, rfl⟩
  rw [List.append_assoc S]
  refine wOps_nil ?_
  refine mwp_block ?_
  refine mwp_len (t := 6) rfl fun hlen => ?_
  rw [encVs_length] at hlen
  refine mwp_rangeB (ok := fun σ => σ.length = S.length + 4 ∧ σ[(S ++ [MObj.cells (encV (.mk n m s c w)).cells, MObj.cells [.int .i64 1]]).length]? = some (.cells [.lst none 5 (encVs w)])) (ys := w.map fun x => [encV x]) .ret (.inl rfl) (fun j => true) (fun j => ([.cells (encV (.mk n m s c w)).cells, .cells [.int .i64 (sizeGo 1 (w.take j))], .cells [.lst none 5 (encVs w)]] : MS)) (fun j => ([.cells (encV (.mk n m s c w)).cells, .cells [.int .i64 (sizeGo 1 (w.take j))], .cells [.lst none 5 (encVs w)]] : MS)) (fun j => rfl) (fun j => rfl) rfl (fun j o ho n hn => size_cl ho) (fun j o ho n hn => size_cl ho) rfl co50 rfl (by simp) (values_iter w hlen _ _) (fun j => ⟨by simp only [List.length_append, List.length_cons, List.length_nil], get_box2⟩) (fun j s q => ⟨by simp only [List.length_append, List.length_cons, List.length_nil], get_box2⟩) rfl (fun y hy => by obtain ⟨i, _, rfl⟩ := List.mem_map.1 hy; rfl) ?_ ?_ ?_
  ·
    intro j y hy hbef L'
    rw [List.getElem?_map] at hy
    obtain ⟨⟨n1, m1, s1, c1, w1⟩, hs, rfl⟩ := Option.map_eq_some_iff.1 hy
    refine mwp_region rfl ?_
    refine wOps_op rfl (op_alloc rfl zm30 ?_)
    refine wOps_op rfl (op_store_last rfl rfl rfl sz30 rfl rfl (Nat.le_of_ble_eq_true rfl) ?_)
    refine wOps_nil ?_
    refine ⟨rfl, [_], rfl, ?_⟩
    rw [List.append_assoc (S ++ _)]
    refine mwp_abs fun R hR => ?_
    refine mwp_block ?_
    refine mwp_draw [4] [_, (S ++ [.cells (encV (.mk n m s c w)).cells, .cells [.int .i64 (IntKind.i64.wrap (sizeGo 1 (w.take j) + sizeF (.mk n1 m1 s1 c1 w1)))], .cells [.lst none 5 (encVs w)]]) ++ R] mo (by decide) rfl rfl rfl rfl ?_
    refine dOps_op rfl rfl (.cons (op_load_mid rfl rfl rfl ta3 rfl ⟨rfl, rfl⟩) .nil) ?_
    refine dOps_op rfl rfl (.cons (op_load_ref rfl rfl (by rw [hR]; exact get_rt) ta30 rfl ⟨rfl, rfl⟩) .nil) ?_
    refine dOps_op rfl rfl (.cons (op_call rfl rfl rfl co17 (ih (.mk n1 m1 s1 c1 w1) (hmem _ (List.mem_of_getElem? hs)) _)) .nil) ?_
    refine dOps_op rfl rfl (.cons (op_arith rfl rfl rfl rfl ⟨rfl, rfl⟩) .nil) ?_
    refine dOps_eff rfl rfl rfl rfl (op_store_mid rfl rfl rfl rfl sz3 rfl rfl (Nat.le_of_ble_eq_true rfl) rfl ⟨rfl, rfl⟩) ?_
    refine dOps_nil ?_
    exact .inl ⟨rfl, rfl, [_], by rw [sizeGo_succ hs, hR]; exact (List.append_assoc _ _ _).symm⟩
  ·
    intro _
    rw [List.append_assoc S, List.length_map, List.take_length]
    refine mwp_seq ?_
    refine mwp_region rfl ?_
    refine wOps_op rfl (op_load' rfl rfl rfl ta3 rfl ?_)
    refine wOps_op rfl (op_assign rfl rfl ?_)
    refine wOps_nil ?_
    refine mwp_ret ?_
    exact ret_tmp (.inr rfl) Try.results17 rfl (.of_eq (rfl)) (.int _ _) ⟨rfl, rfl⟩
  ·
    intro j y hy hp
    cases hp

theorem valSize_spec (x : Val) (S : MS) : MCalls Try.prog 17 [encV x] S fun v σ' => v = .int .i64 (sizeF x) ∧ σ' = S := size_spec _ x (Nat.le_refl _) S

theorem xSame_spec (a b : List Bs) (S : MS) : MCalls Try.prog 24 [.lst none 1 (a.map encX), .lst none 1 (b.map encX)] S fun v σ' => v = .bool (decide (a = b)) ∧ σ' = S := by
  refine mcalls_body Try.func24 rfl Try.ntmps24 (Nat.le_of_ble_eq_true rfl) ?_
  refine mwp_len (t := 0) rfl fun hlen => ?_
  rw [List.length_map] at hlen
  refine mwp_seq ?_
  refine mwp_region rfl ?_
  refine wOps_op rfl (op_assign rfl rfl ?_)
  refine wOps_nil ?_
  refine mwp_seq ?_
  refine mwp_seq ?_
  refine mwp_region rfl ?_
  refine wOps_op rfl (op_move rfl rfl ?_)
  refine wOps_op rfl (op_len_lst rfl Try.underlying26 rfl ?_)
  refine wOps_op rfl (op_move rfl rfl ?_)
  refine wOps_op rfl (op_len_lst rfl Try.underlying26 rfl ?_)
  refine wOps_op rfl (op_cmp rfl rfl rfl rfl ?_)
  refine wOps_nil ?_
  refine mwp_cond_split rfl (fun h10 => ?_) (fun h10 => ?_)
  · -- yes
    refine mwp_seq ?_
    refine mwp_region rfl ?_
    refine wOps_op rfl (op_assign rfl rfl ?_)
    refine wOps_nil ?_
    refine mwp_ret ?_
    exact ret_tmp (.inr rfl) Try.results24 rfl (.of_eq (by congr 1; symm; rw [decide_eq_false_iff_not]; intro e; subst e; simp at h10)) (.bool _) ⟨rfl, rfl⟩
  · -- no
    have hab : a.length = b.length := by simp at h10; omega
    refine mwp_skip ?_
    refine mwp_seq ?_
    refine mwp_seq ?_
    refine mwp_region rfl ?_
    refine wOps_op rfl (op_assign rfl rfl ?_)
    refine wOps_nil ?_
    refine mwp_block ?_
    refine mwp_loopK (α := Nat) [(0, _), (1, _)] (fun i => [(5, .int .i64 (i : Int))]) (fun i => []) (fun i => i ≤ a.length ∧ a.take i = b.take i) (fun i => a.length - i) (0) (.keep rfl (.keep rfl (.nil))) (.keep rfl (.nil)) (⟨by omega, rfl⟩) (rfl) ?_
    rintro i ⟨hi, heq⟩
    refine mwp_seq ?_
    refine mwp_seq ?_
    refine mwp_region rfl ?_
    refine wOps_op rfl (op_move rfl rfl ?_)
    refine wOps_op rfl (op_move rfl rfl ?_)
    refine wOps_op rfl (op_len_lst rfl Try.underlying26 rfl ?_)
    refine wOps_op rfl (op_cmp rfl rfl rfl rfl ?_)
    refine wOps_nil ?_
    refine mwp_cond_split rfl (fun h14 => ?_) (fun h14 => ?_)
    · -- yes
      have hlt : i < a.length := by simpa using h14
      obtain ⟨x, hs⟩ : ∃ q_, a[i]? = some q_ := ⟨_, List.getElem?_eq_getElem hlt⟩
      obtain ⟨y, hs2⟩ : ∃ s, b[i]? = some s := ⟨_, List.getElem?_eq_getElem (by omega)⟩
      refine mwp_skip ?_
      refine mwp_seq ?_
      refine mwp_block ?_
      refine mwp_seq ?_
      refine mwp_draw [] [_] mo (by decide) rfl rfl rfl rfl ?_
      refine dOps_op rfl rfl (.cons (op_move rfl rfl ⟨rfl, rfl⟩) .nil) ?_
      refine dOps_op rfl rfl (.cons (op_move rfl rfl ⟨rfl, rfl⟩) .nil) ?_
      refine dOps_op rfl rfl (.cons (op_indexAddr rfl Try.underlying26 sz9 (by decide) rfl rfl rfl (get_map hs) ⟨rfl, rfl⟩) .nil) ?_
      refine dOps_op rfl rfl (.cons (op_load_sptr rfl rfl ta9 rfl ⟨rfl, rfl⟩) .nil) ?_
      refine dOps_op rfl rfl (.cons (op_move rfl rfl ⟨rfl, rfl⟩) .nil) ?_
      refine dOps_op rfl rfl (.cons (op_move rfl rfl ⟨rfl, rfl⟩) .nil) ?_
      refine dOps_op rfl rfl (.cons (op_indexAddr rfl Try.underlying26 sz9 (by decide) rfl rfl rfl (get_map hs2) ⟨rfl, rfl⟩) .nil) ?_
      refine dOps_op rfl rfl (.cons (op_load_sptr rfl rfl ta9 rfl ⟨rfl, rfl⟩) .nil) ?_
      refine dOps_op rfl rfl (.cons (op_strcmp rfl rfl rfl rfl ⟨rfl, rfl⟩) .nil) ?_
      refine dOps_nil ?_
      refine mwp_cond_split rfl (fun h25 => ?_) (fun h25 => ?_)
      · -- yes
        refine mwp_seq ?_
        refine mwp_region rfl ?_
        refine wOps_op rfl (op_assign rfl rfl ?_)
        refine wOps_nil ?_
        refine mwp_ret ?_
        exact ret_tmp (.inr rfl) Try.results24 rfl (.of_eq (by congr 1; symm; rw [decide_eq_false_iff_not]; intro e; subst e; rw [hs2] at hs; injection hs with hs; subst hs; simp at h25)) (.bool _) ⟨rfl, rfl⟩
      · -- no
        refine mwp_skip ?_
        refine mwp_region rfl ?_
        refine wOps_op rfl (op_move rfl rfl ?_)
        refine wOps_op rfl (op_arith rfl rfl rfl rfl ?_)
        refine wOps_op rfl (op_assign rfl rfl ?_)
        refine wOps_nil ?_
        refine ⟨i + 1, by omega, ⟨by omega, ?_⟩, rfl, (.keep rfl (.keep rfl (.nil))), (.eq rfl (int_succ hlt hlen) (.nil))⟩
        rw [List.take_add_one, List.take_add_one, hs, hs2, heq]
        simp at h25
        rw [h25]
    · -- no
      have hge : i = a.length := by simp at h14; omega
      refine mwp_exit ?_
      refine mwp_seq ?_
      refine mwp_region rfl ?_
      refine wOps_op rfl (op_assign rfl rfl ?_)
      refine wOps_nil ?_
      refine mwp_ret ?_
      exact ret_tmp (.inr rfl) Try.results24 rfl (.of_eq (by congr 1; symm; rw [decide_eq_true_iff]; rw [hge, List.take_length, hab, List.take_length] at heq; exact heq)) (.bool _) ⟨rfl, rfl⟩

theorem rvSame_spec (d : Nat) : ∀ (a b : Val), vdepth a ≤ d → ∀ S : MS, MCalls Try.prog 11 [encV a, encV b] S fun v σ' => v = .bool (decide (a = b)) ∧ σ' = S := by
  induction d with
  | zero => rintro ⟨n, m, s, c, w⟩ b h; simp [vdepth] at h
  | succ d ih =>
  rintro ⟨n, m, s, c, w⟩ ⟨n2, m2, s2, c2, w2⟩ hd S
  have hmem : ∀ x ∈ w, vdepth x ≤ d := fun x hx => by have := vdepth_mem hx; rw [vdepth] at hd; omega
  refine mcalls_body Try.func11 rfl Try.ntmps11 (Nat.le_of_ble_eq_true rfl) ?_
  refine mwp_seq ?_
  refine mwp_region rfl ?_
  refine wOps_op rfl (op_box' rfl rfl rfl rfl ?_)
  refine wOps_op rfl (op_box' rfl rfl rfl rfl ?_)
  refine wOps_op rfl (op_assign rfl rfl ?_)
  refine wOps_nil ?_
  refine mwp_seq ?_
  refine mwp_seq ?_
  refine mwp_region rfl ?_
  refine wOps_op rfl (op_fieldAddr_ref rfl rfl fo30_0 ?_)
  refine wOps_op rfl (op_load' rfl rfl rfl ta25 rfl ?_)
  refine wOps_op rfl (op_fieldAddr_ref rfl rfl fo30_0 ?_)
  refine wOps_op rfl (op_load' rfl rfl rfl ta25 rfl ?_)
  refine wOps_op rfl (op_cmp rfl rfl rfl rfl ?_)
  refine wOps_op rfl (op_move rfl rfl ?_)
  refine wOps_case (fun h12 => ?_) (fun h12 => ?_)
  ·
    refine wOps_skip rfl ?_
    refine wOps_skip rfl ?_
    refine wOps_skip rfl ?_
    refine wOps_skip rfl ?_
    refine wOps_skip rfl ?_
    refine wOps_op rfl (op_pick rfl rfl rfl ?_)
    refine wOps_op rfl (op_move rfl rfl ?_)
    refine wOps_skip rfl ?_
    refine wOps_skip rfl ?_
    refine wOps_skip rfl ?_
    refine wOps_skip rfl ?_
    refine wOps_skip rfl ?_
    refine wOps_skip rfl ?_
    refine wOps_op rfl (op_pick rfl rfl rfl ?_)
    refine wOps_op rfl (op_move rfl rfl ?_)
    refine wOps_skip rfl ?_
    refine wOps_skip rfl ?_
    refine wOps_skip rfl ?_
    refine wOps_skip rfl ?_
    refine wOps_skip rfl ?_
    refine wOps_skip rfl ?_
    refine wOps_skip rfl ?_
    refine wOps_op rfl (op_pick rfl rfl rfl ?_)
    refine wOps_op rfl (op_move rfl rfl ?_)
    refine wOps_skip rfl ?_
    refine wOps_skip rfl ?_
    refine wOps_skip rfl ?_
    refine wOps_skip rfl ?_
    refine wOps_skip rfl ?_
    refine wOps_skip rfl ?_
    refine wOps_skip rfl ?_
    refine wOps_op rfl (op_pick rfl rfl rfl ?_)
    refine wOps_nil ?_
    refine mwp_cond_t rfl (rfl) ?_
    refine mwp_seq ?_
    refine mwp_region rfl ?_
    refine wOps_op rfl (op_assign rfl rfl ?_)
    refine wOps_nil ?_
    refine mwp_ret ?_
    exact ret_tmp (.inr rfl) Try.results11 rfl (.of_eq (by congr 1; rw [Bool.eq_iff_iff]; simp_all <;> (intros; simp_all))) (.bool _) ⟨rfl, rfl⟩
  ·
    refine wOps_op rfl (op_fieldAddr_ref rfl rfl fo30_1 ?_)
    refine wOps_op rfl (op_load' rfl rfl rfl ta25 rfl ?_)
    refine wOps_op rfl (op_fieldAddr_ref rfl rfl fo30_1 ?_)
    refine wOps_op rfl (op_load' rfl rfl rfl ta25 rfl ?_)
    refine wOps_op rfl (op_cmp rfl rfl rfl rfl ?_)
    refine wOps_op rfl (op_pick rfl rfl rfl ?_)
    refine wOps_op rfl (op_move rfl rfl ?_)
    refine wOps_case (fun h19 => ?_) (fun h19 => ?_)
    ·
      refine wOps_skip rfl ?_
      refine wOps_skip rfl ?_
      refine wOps_skip rfl ?_
      refine wOps_skip rfl ?_
      refine wOps_skip rfl ?_
      refine wOps_skip rfl ?_
      refine wOps_op rfl (op_pick rfl rfl rfl ?_)
      refine wOps_op rfl (op_move rfl rfl ?_)
      refine wOps_skip rfl ?_
      refine wOps_skip rfl ?_
      refine wOps_skip rfl ?_
      refine wOps_skip rfl ?_
      refine wOps_skip rfl ?_
      refine wOps_skip rfl ?_
      refine wOps_skip rfl ?_
      refine wOps_op rfl (op_pick rfl rfl rfl ?_)
      refine wOps_op rfl (op_move rfl rfl ?_)
      refine wOps_skip rfl ?_
      refine wOps_skip rfl ?_
      refine wOps_skip rfl ?_
      refine wOps_skip rfl ?_
      refine wOps_skip rfl ?_
      refine wOps_skip rfl ?_
      refine wOps_skip rfl ?_
      refine wOps_op rfl (op_pick rfl rfl rfl ?_)
      refine wOps_nil ?_
      refine mwp_cond_t rfl (rfl) ?_
      refine mwp_seq ?_
      refine mwp_region rfl ?_
      refine wOps_op rfl (op_assign rfl rfl ?_)
      refine wOps_nil ?_
      refine mwp_ret ?_
      exact ret_tmp (.inr rfl) Try.results11 rfl (.of_eq (by congr 1; rw [Bool.eq_iff_iff]; simp_all <;> (intros; simp_all))) (.bool _) ⟨rfl, rfl⟩
    ·
      refine wOps_op rfl (op_fieldAddr_ref rfl rfl fo30_2 ?_)
      refine wOps_op rfl (op_load' rfl rfl rfl ta26 rfl ?_)
      refine wOps_op rfl (op_fieldAddr_ref rfl rfl fo30_2 ?_)
      refine wOps_op rfl (op_load' rfl rfl rfl ta26 rfl ?_)
      refine wOps_op rfl (op_call rfl rfl rfl co24 ((xSame_spec s s2 _).mono ?_))
      rintro _ _ ⟨rfl, rfl⟩
      refine wOps_op rfl (op_not rfl rfl ?_)
      refine wOps_op rfl (op_pick rfl rfl rfl ?_)
      refine wOps_op rfl (op_move rfl rfl ?_)
      refine wOps_case (fun h27 => ?_) (fun h27 => ?_)
      ·
        refine wOps_skip rfl ?_
        refine wOps_skip rfl ?_
        refine wOps_skip rfl ?_
        refine wOps_skip rfl ?_
        refine wOps_skip rfl ?_
        refine wOps_skip rfl ?_
        refine wOps_skip rfl ?_
        refine wOps_op rfl (op_pick rfl rfl rfl ?_)
        refine wOps_op rfl (op_move rfl rfl ?_)
        refine wOps_skip rfl ?_
        refine wOps_skip rfl ?_
        refine wOps_skip rfl ?_
        refine wOps_skip rfl ?_
        refine wOps_skip rfl ?_
        refine wOps_skip rfl ?_
        refine wOps_skip rfl ?_
        refine wOps_op rfl (op_pick rfl rfl rfl ?_)
        refine wOps_nil ?_
        refine mwp_cond_t rfl (rfl) ?_
        refine mwp_seq ?_
        refine mwp_region rfl ?_
        refine wOps_op rfl (op_assign rfl rfl ?_)
        refine wOps_nil ?_
        refine mwp_ret ?_
        exact ret_tmp (.inr rfl) Try.results11 rfl (.of_eq (by congr 1; rw [Bool.eq_iff_iff]; simp_all <;> (intros; simp_all))) (.bool _) ⟨rfl, rfl⟩
      ·
        refine wOps_op rfl (op_fieldAddr_ref rfl rfl fo30_3 ?_)
        refine wOps_op rfl (op_load' rfl rfl rfl ta27 rfl ?_)
        refine wOps_op rfl (op_len_lst rfl Try.underlying27 rfl ?_)
        refine wOps_op rfl (op_fieldAddr_ref rfl rfl fo30_3 ?_)
        refine wOps_op rfl (op_load' rfl rfl rfl ta27 rfl ?_)
        refine wOps_op rfl (op_len_lst rfl Try.underlying27 rfl ?_)
        refine wOps_op rfl (op_cmp rfl rfl rfl rfl ?_)
        refine wOps_op rfl (op_pick rfl rfl rfl ?_)
        refine wOps_op rfl (op_move rfl rfl ?_)
        refine wOps_case (fun h36 => ?_) (fun h36 => ?_)
        ·
          have hcne : ¬ c = c2 := by intro e; subst e; simp at h36
          refine wOps_skip rfl ?_
          refine wOps_skip rfl ?_
          refine wOps_skip rfl ?_
          refine wOps_skip rfl ?_
          refine wOps_skip rfl ?_
          refine wOps_skip rfl ?_
          refine wOps_skip rfl ?_
          refine wOps_op rfl (op_pick rfl rfl rfl ?_)
          refine wOps_nil ?_
          refine mwp_cond_t rfl (rfl) ?_
          refine mwp_seq ?_
          refine mwp_region rfl ?_
          refine wOps_op rfl (op_assign rfl rfl ?_)
          refine wOps_nil ?_
          refine mwp_ret ?_
          exact ret_tmp (.inr rfl) Try.results11 rfl (.of_eq (by congr 1; rw [Bool.eq_iff_iff]; simp_all <;> (intros; simp_all))) (.bool _) ⟨rfl, rfl⟩
        ·
          have hcc : c.length = c2.length := by rw [List.length_map, List.length_map] at h36; simp at h36; omega
          refine wOps_op rfl (op_fieldAddr_ref rfl rfl fo30_4 ?_)
          refine wOps_op rfl (op_load' rfl rfl rfl ta28 rfl ?_)
          refine wOps_op rfl (op_len_lst rfl Try.underlying28 rfl ?_)
          refine wOps_op rfl (op_fieldAddr_ref rfl rfl fo30_4 ?_)
          refine wOps_op rfl (op_load' rfl rfl rfl ta28 rfl ?_)
          refine wOps_op rfl (op_len_lst rfl Try.underlying28 rfl ?_)
          refine wOps_op rfl (op_cmp rfl rfl rfl rfl ?_)
          refine wOps_op rfl (op_pick rfl rfl rfl ?_)
          refine wOps_nil ?_
          refine mwp_cond_split rfl (fun h44 => ?_) (fun h44 => ?_)
          · -- yes
            have hwne : ¬ w = w2 := by intro e; subst e; simp at h44
            refine mwp_seq ?_
            refine mwp_region rfl ?_
            refine wOps_op rfl (op_assign rfl rfl ?_)
            refine wOps_nil ?_
            refine mwp_ret ?_
            exact ret_tmp (.inr rfl) Try.results11 rfl (.of_eq (by congr 1; rw [Bool.eq_iff_iff]; simp_all <;> (intros; simp_all))) (.bool _) ⟨rfl, rfl⟩
          · -- no
            have hww : w.length = w2.length := by rw [encVs_length, encVs_length] at h44; simp at h44; omega
            refine mwp_len (t := 29) rfl fun hlc => ?_
            refine mwp_len (t := 38) rfl fun hlw => ?_
            rw [List.length_map] at hlc
            rw [encVs_length] at hlw
            refine mwp_skip ?_
            refine mwp_seq ?_
            refine mwp_seq ?_
            refine mwp_region rfl ?_
            refine wOps_op rfl (op_assign rfl rfl ?_)
            refine wOps_nil ?_
            refine mwp_block ?_
            refine mwp_loopK (α := Nat) [(2, _), (3, _)] (fun i => [(5, .int .i64 (i : Int))]) (fun i => [.cells (encV (.mk n m s c w)).cells, .cells (encV (.mk n2 m2 s2 c2 w2)).cells]) (fun i => i ≤ c.length ∧ c.take i = c2.take i) (fun i => c.length - i) (0) (.keep rfl (.keep rfl (.nil))) (.keep rfl (.nil)) (⟨by omega, rfl⟩) (rfl) ?_
            rintro i ⟨hi, heq⟩
            refine mwp_seq ?_
            refine mwp_seq ?_
            refine mwp_region rfl ?_
            refine wOps_op rfl (op_move rfl rfl ?_)
            refine wOps_op rfl (op_fieldAddr_ref rfl rfl fo30_3 ?_)
            refine wOps_op rfl (op_load' rfl rfl rfl ta27 rfl ?_)
            refine wOps_op rfl (op_len_lst rfl Try.underlying27 rfl ?_)
            refine wOps_op rfl (op_cmp rfl rfl rfl rfl ?_)
            refine wOps_nil ?_
            refine mwp_cond_split rfl (fun h49 => ?_) (fun h49 => ?_)
            · -- yes
              have hlt : i < c.length := by simpa using h49
              obtain ⟨x, hs⟩ : ∃ q_, c[i]? = some q_ := ⟨_, List.getElem?_eq_getElem hlt⟩
              obtain ⟨y, hs2⟩ : ∃ s, c2[i]? = some s := ⟨_, List.getElem?_eq_getElem (by omega)⟩
              refine mwp_skip ?_
              refine mwp_seq ?_
              refine mwp_block ?_
              refine mwp_seq ?_
              refine mwp_draw [] [_] mo (by decide) rfl rfl rfl rfl ?_
              refine dOps_op rfl rfl (.cons (op_fieldAddr_ref rfl rfl fo30_3 ⟨rfl, rfl⟩) .nil) ?_
              refine dOps_op rfl rfl (.cons (op_load' rfl rfl rfl ta27 rfl ⟨rfl, rfl⟩) .nil) ?_
              refine dOps_op rfl rfl (.cons (op_move rfl rfl ⟨rfl, rfl⟩) .nil) ?_
              refine dOps_op rfl rfl (.cons (op_indexAddr rfl Try.underlying27 sz40 (by decide) rfl rfl rfl (get_map hs) ⟨rfl, rfl⟩) .nil) ?_
              refine dOps_op rfl rfl (.cons (op_load_sptr rfl rfl ta40 rfl ⟨rfl, rfl⟩) .nil) ?_
              refine dOps_op rfl rfl (.cons (op_fieldAddr_ref rfl rfl fo30_3 ⟨rfl, rfl⟩) .nil) ?_
              refine dOps_op rfl rfl (.cons (op_load' rfl rfl rfl ta27 rfl ⟨rfl, rfl⟩) .nil) ?_
              refine dOps_op rfl rfl (.cons (op_move rfl rfl ⟨rfl, rfl⟩) .nil) ?_
              refine dOps_op rfl rfl (.cons (op_indexAddr rfl Try.underlying27 sz40 (by decide) rfl rfl rfl (get_map hs2) ⟨rfl, rfl⟩) .nil) ?_
              refine dOps_op rfl rfl (.cons (op_load_sptr rfl rfl ta40 rfl ⟨rfl, rfl⟩) .nil) ?_
              refine dOps_op rfl rfl (.cons (op_call rfl rfl rfl co25 (rSameC_spec x y _)) .nil) ?_
              refine dOps_op rfl rfl (.cons (op_not rfl rfl ⟨rfl, rfl⟩) .nil) ?_
              refine dOps_nil ?_
              refine mwp_cond_split rfl (fun h63 => ?_) (fun h63 => ?_)
              · -- yes
                refine mwp_seq ?_
                refine mwp_region rfl ?_
                refine wOps_op rfl (op_assign rfl rfl ?_)
                refine wOps_nil ?_
                refine mwp_ret ?_
                exact ret_tmp (.inr rfl) Try.results11 rfl (.of_eq (by congr 1; symm; rw [decide_eq_false_iff_not]; intro e; injection e with e1 e2 e3 e4 e5; subst e4; rw [hs2] at hs; injection hs with hs; subst hs; simp at h63)) (.bool _) ⟨rfl, rfl⟩
              · -- no
                refine mwp_skip ?_
                refine mwp_region rfl ?_
                refine wOps_op rfl (op_move rfl rfl ?_)
                refine wOps_op rfl (op_arith rfl rfl rfl rfl ?_)
                refine wOps_op rfl (op_assign rfl rfl ?_)
                refine wOps_nil ?_
                refine ⟨i + 1, by omega, ⟨by omega, ?_⟩, rfl, (.keep rfl (.keep rfl (.nil))), (.eq rfl (int_succ hlt hlc) (.nil))⟩
                rw [List.take_add_one, List.take_add_one, hs, hs2, heq, not_dec h63]
            · -- no
              have hge : i = c.length := by simp at h49; omega
              rw [hge, List.take_length, hcc, List.take_length] at heq
              refine mwp_exit ?_
              refine mwp_seq ?_
              refine mwp_seq ?_
              refine mwp_region rfl ?_
              refine wOps_op rfl (op_assign rfl rfl ?_)
              refine wOps_nil ?_
              refine mwp_block ?_
              refine mwp_loopK (α := Nat) [(2, _), (3, _)] (fun k => [(6, .int .i64 (k : Int))]) (fun k => [.cells (encV (.mk n m s c w)).cells, .cells (encV (.mk n2 m2 s2 c2 w2)).cells]) (fun k => k ≤ w.length ∧ w.take k = w2.take k) (fun k => w.length - k) (0) (.keep rfl (.keep rfl (.nil))) (.keep rfl (.nil)) (⟨by omega, rfl⟩) (rfl) ?_
              rintro k ⟨hk, heq2⟩
              refine mwp_seq ?_
              refine mwp_seq ?_
              refine mwp_region rfl ?_
              refine wOps_op rfl (op_move rfl rfl ?_)
              refine wOps_op rfl (op_fieldAddr_ref rfl rfl fo30_4 ?_)
              refine wOps_op rfl (op_load' rfl rfl rfl ta28 rfl ?_)
              refine wOps_op rfl (op_len_lst rfl Try.underlying28 rfl ?_)
              refine wOps_op rfl (op_cmp rfl rfl rfl rfl ?_)
              refine wOps_nil ?_
              refine mwp_cond_split rfl (fun h68 => ?_) (fun h68 => ?_)
              · -- yes
                rw [encVs_length] at h68
                have hlt2 : k < w.length := by simpa using h68
                obtain ⟨⟨n3, m3, s3, c3, w3⟩, hs3⟩ : ∃ q, w[k]? = some q := ⟨_, List.getElem?_eq_getElem hlt2⟩
                obtain ⟨⟨n4, m4, s4, c4, w4⟩, hs4⟩ : ∃ q, w2[k]? = some q := ⟨_, List.getElem?_eq_getElem (by omega)⟩
                refine mwp_skip ?_
                refine mwp_seq ?_
                refine mwp_block ?_
                refine mwp_seq ?_
                refine mwp_draw [] [_] mo (by decide) rfl rfl rfl rfl ?_
                refine dOps_op rfl rfl (.cons (op_fieldAddr_ref rfl rfl fo30_4 ⟨rfl, rfl⟩) .nil) ?_
                refine dOps_op rfl rfl (.cons (op_load' rfl rfl rfl ta28 rfl ⟨rfl, rfl⟩) .nil) ?_
                refine dOps_op rfl rfl (.cons (op_move rfl rfl ⟨rfl, rfl⟩) .nil) ?_
                refine dOps_op rfl rfl (.cons (op_indexAddr rfl Try.underlying28 sz30 (by decide) rfl rfl rfl (encVs_get hs3) ⟨rfl, rfl⟩) .nil) ?_
                refine dOps_op rfl rfl (.cons (op_load_sptr rfl rfl ta30 rfl ⟨rfl, rfl⟩) .nil) ?_
                refine dOps_op rfl rfl (.cons (op_fieldAddr_ref rfl rfl fo30_4 ⟨rfl, rfl⟩) .nil) ?_
                refine dOps_op rfl rfl (.cons (op_load' rfl rfl rfl ta28 rfl ⟨rfl, rfl⟩) .nil) ?_
                refine dOps_op rfl rfl (.cons (op_move rfl rfl ⟨rfl, rfl⟩) .nil) ?_
                refine dOps_op rfl rfl (.cons (op_indexAddr rfl Try.underlying28 sz30 (by decide) rfl rfl rfl (encVs_get hs4) ⟨rfl, rfl⟩) .nil) ?_
                refine dOps_op rfl rfl (.cons (op_load_sptr rfl rfl ta30 rfl ⟨rfl, rfl⟩) .nil) ?_
                refine dOps_op rfl rfl (.cons (op_call rfl rfl rfl co11 (ih (.mk n3 m3 s3 c3 w3) (.mk n4 m4 s4 c4 w4) (hmem _ (List.mem_of_getElem? hs3)) _)) .nil) ?_
                refine dOps_op rfl rfl (.cons (op_not rfl rfl ⟨rfl, rfl⟩) .nil) ?_
                refine dOps_nil ?_
                refine mwp_cond_split rfl (fun h82 => ?_) (fun h82 => ?_)
                · -- yes
                  refine mwp_seq ?_
                  refine mwp_region rfl ?_
                  refine wOps_op rfl (op_assign rfl rfl ?_)
                  refine wOps_nil ?_
                  refine mwp_ret ?_
                  exact ret_tmp (.inr rfl) Try.results11 rfl (.of_eq (by congr 1; symm; rw [decide_eq_false_iff_not]; intro e; injection e with e1 e2 e3 e4 e5; subst e5; rw [hs4] at hs3; injection hs3 with hs3; rw [hs3] at h82; simp at h82)) (.bool _) ⟨rfl, rfl⟩
                · -- no
                  refine mwp_skip ?_
                  refine mwp_region rfl ?_
                  refine wOps_op rfl (op_move rfl rfl ?_)
                  refine wOps_op rfl (op_arith rfl rfl rfl rfl ?_)
                  refine wOps_op rfl (op_assign rfl rfl ?_)
                  refine wOps_nil ?_
                  refine ⟨k + 1, by omega, ⟨by omega, ?_⟩, rfl, (.keep rfl (.keep rfl (.nil))), (.eq rfl (int_succ hlt2 hlw) (.nil))⟩
                  rw [List.take_add_one, List.take_add_one, hs3, hs4, heq2, not_dec h82]
              · -- no
                rw [encVs_length] at h68
                have hge2 : k = w.length := by simp at h68; omega
                rw [hge2, List.take_length, hww, List.take_length] at heq2
                refine mwp_exit ?_
                refine mwp_seq ?_
                refine mwp_region rfl ?_
                refine wOps_op rfl (op_assign rfl rfl ?_)
                refine wOps_nil ?_
                refine mwp_ret ?_
                exact ret_tmp (.inr rfl) Try.results11 rfl (.of_eq (by congr 1; rw [Bool.eq_iff_iff]; simp_all)) (.bool _) ⟨rfl, rfl⟩

theorem rSame_spec (a b : Val) (S : MS) : MCalls Try.prog 11 [encV a, encV b] S fun v σ' => v = .bool (decide (a = b)) ∧ σ' = S := rvSame_spec _ a b (Nat.le_refl _) S

theorem rsize_spec (d : Nat) : ∀ x : Val, vdepth x ≤ d → ∀ S : MS, MCalls Try.prog 18 [encV x] S fun v σ' => v = .int .i64 (sizeF x) ∧ σ' = S := by
  induction d with
  | zero => rintro ⟨n, m, s, c, w⟩ h; simp [vdepth] at h
  | succ d ih =>
  rintro ⟨n, m, s, c, w⟩ hd S
  have hmem : ∀ x ∈ w, vdepth x ≤ d := fun x hx => by have := vdepth_mem hx; rw [vdepth] at hd; omega
  refine mcalls_body Try.func18 rfl Try.ntmps18 (Nat.le_of_ble_eq_true rfl) ?_
  refine mwp_seq ?_
  refine mwp_region rfl ?_
  refine wOps_op rfl (op_box' rfl rfl rfl rfl ?_)
  refine wOps_op rfl (op_assign rfl rfl ?_)
  refine wOps_nil ?_
  refine mwp_seq ?_
  refine mwp_region rfl ?_
  refine wOps_op rfl (op_assign rfl rfl ?_)
  refine wOps_nil ?_
  refine mwp_seq ?_
  refine mwp_seq ?_
  refine mwp_region rfl ?_
  refine wOps_op rfl (op_assign rfl rfl ?_)
  refine wOps_nil ?_
  refine mwp_block ?_
  refine mwp_loopK (α := Nat) [(1, _)] (fun i => [(3, .int .i64 (sizeGo 1 (w.take i))), (4, .int .i64 (i : Int))]) (fun i => [.cells (encV (.mk n m s c w)).cells]) (fun i => i ≤ w.length) (fun i => w.length - i) (0) (.keep rfl (.nil)) (.keep rfl (.keep rfl (.nil))) (by omega) (rfl) ?_
  rintro i hi
  refine mwp_seq ?_
  refine mwp_seq ?_
  refine mwp_region rfl ?_
  refine wOps_op rfl (op_move rfl rfl ?_)
  refine wOps_op rfl (op_fieldAddr_ref rfl rfl fo30_4 ?_)
  refine wOps_op rfl (op_load' rfl rfl rfl ta28 rfl ?_)
  refine wOps_op rfl (op_len_lst rfl Try.underlying28 rfl ?_)
  refine wOps_op rfl (op_cmp rfl rfl rfl rfl ?_)
  refine wOps_nil ?_
  refine mwp_cond_split rfl (fun h9 => ?_) (fun h9 => ?_)
  · -- yes
    rw [encVs_length] at h9
    have hlt : i < w.length := by simpa using h9
    obtain ⟨⟨n1, m1, s1, c1, w1⟩, hs⟩ : ∃ q, w[i]? = some q := ⟨_, List.getElem?_eq_getElem hlt⟩
    refine mwp_len (t := 7) rfl fun hlen => ?_
    rw [encVs_length] at hlen
    refine mwp_skip ?_
    refine mwp_seq ?_
    refine mwp_block ?_
    refine mwp_region rfl ?_
    refine wOps_op rfl (op_move rfl rfl ?_)
    refine wOps_op rfl (op_fieldAddr_ref rfl rfl fo30_4 ?_)
    refine wOps_op rfl (op_load' rfl rfl rfl ta28 rfl ?_)
    refine wOps_op rfl (op_move rfl rfl ?_)
    refine wOps_op rfl (op_indexAddr rfl Try.underlying28 sz30 (by decide) rfl rfl rfl (encVs_get hs) ?_)
    refine wOps_op rfl (op_load_sptr rfl rfl ta30 rfl ?_)
    refine wOps_op rfl (op_call rfl rfl rfl co18 ((ih (.mk n1 m1 s1 c1 w1) (hmem _ (List.mem_of_getElem? hs)) _).mono ?_))
    rintro _ _ ⟨rfl, rfl⟩
    refine wOps_op rfl (op_arith rfl rfl rfl rfl ?_)
    refine wOps_op rfl (op_assign rfl rfl ?_)
    refine wOps_nil ?_
    refine mwp_region rfl ?_
    refine wOps_op rfl (op_move rfl rfl ?_)
    refine wOps_op rfl (op_arith rfl rfl rfl rfl ?_)
    refine wOps_op rfl (op_assign rfl rfl ?_)
    refine wOps_nil ?_
    refine ⟨i + 1, by omega, by omega, rfl, (.keep rfl (.nil)), (.eq rfl (by rw [sizeGo_succ hs]) (.eq rfl (int_succ hlt hlen) (.nil)))⟩
  · -- no
    rw [encVs_length] at h9
    have hge : i = w.length := by simp at h9; omega
    refine mwp_exit ?_
    refine mwp_seq ?_
    refine mwp_region rfl ?_
    refine wOps_op rfl (op_move rfl rfl ?_)
    refine wOps_op rfl (op_assign rfl rfl ?_)
    refine wOps_nil ?_
    refine mwp_ret ?_
    exact ret_tmp (.inr rfl) Try.results18 rfl (.of_eq (by rw [hge, List.take_length]; rfl)) (.int _ _) ⟨rfl, rfl⟩

theorem rSize_spec (x : Val) (S : MS) : MCalls Try.prog 18 [encV x] S fun v σ' => v = .int .i64 (sizeF x) ∧ σ' = S := rsize_spec _ x (Nat.le_refl _) S
end Go.Proofs.Ytihpnfpdocnniaa
