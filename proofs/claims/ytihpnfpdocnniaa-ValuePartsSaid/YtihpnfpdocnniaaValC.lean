/-
  Walks of values, third part: whether one is of a schema (layer 4).
-/
import Derived.Test.YtihpnfpdocnniaaValB
import Derived.Test.YtihpnfpdocnniaaStr
set_option linter.unusedVariables false
set_option linter.unusedSimpArgs false
set_option maxHeartbeats 400000
namespace Go.Proofs.Ytihpnfpdocnniaa
open Go Go.MV
theorem one_of {α : Type} {s : List α} (h : s.length = 1) : ∃ t, s = [t] := by
  match s, h with
  | [t], _ => exact ⟨t, rfl⟩
theorem two_of' {α : Type} {s : List α} (h : s.length = 2) : ∃ t u, s = [t, u] := by
  match s, h with
  | [t, u], _ => exact ⟨t, u, rfl⟩
theorem last_no {n m : Int} {s : List Bs} (h : ¬ s = []) (h1 : ¬ s.length = 1) : isLastF n m s = false := by
  match s, h, h1 with
  | [], h, _ => exact absurd rfl h
  | [t], _, h => exact absurd rfl h
  | _ :: _ :: _, _, _ => rfl
theorem one_ins {k : Int} {ins : List Sch} (h : partsF k = (ins.length : Int)) (hk : partsF k = 1) : ∃ t, ins = [t] := one_of (by omega)
theorem isB_mk {k : Int} {ins : List Sch} {fs : List (Val → Bool)} {n m : Int} {s : List Bs} {c : List (List Tk)} {w : List Val} : isB k ins fs (.mk n m s c w) = (bareF k (.mk n m s c w) && decide (w.length ≤ 40) && decide (c.length ≤ 40) &&
  (if k = 1 then true else if k = 2 then decide (n ≤ 1) else if k = 3 then isRowF s
   else if k = 4 then isRowF s && decide (s.length = w.length) && w.all (fun x => fs.headD (fun _ => false) x && !noneF (ins.headD default) x)
   else if k = 5 then (match w with | [x, y] => fs.headD (fun _ => false) x && fs.tail.headD (fun _ => false) y | _ => false)
   else if k = 6 then isLastF n m s
   else if k = 7 then (match c with | [] => true | [c] => decide (0 < c.length) && isClockF c | _ => false)
   else decide (c.length = w.length) && isCauseF c && w.all (fs.headD (fun _ => false)))) := rfl
theorem isVF_mk {ins : List Sch} {n m : Int} {s : List Bs} {c : List (List Tk)} {w : List Val} (k : Int) : isVF (.mk k ins) (.mk n m s c w) = (bareF k (.mk n m s c w) && decide (w.length ≤ 40) && decide (c.length ≤ 40) &&
  (if k = 1 then true else if k = 2 then decide (n ≤ 1) else if k = 3 then isRowF s
   else if k = 4 then isRowF s && decide (s.length = w.length) && w.all (fun x => (isVL ins).headD (fun _ => false) x && !noneF (ins.headD default) x)
   else if k = 5 then (match w with | [x, y] => (isVL ins).headD (fun _ => false) x && (isVL ins).tail.headD (fun _ => false) y | _ => false)
   else if k = 6 then isLastF n m s
   else if k = 7 then (match c with | [] => true | [c] => decide (0 < c.length) && isClockF c | _ => false)
   else decide (c.length = w.length) && isCauseF c && w.all ((isVL ins).headD (fun _ => false)))) := by rw [isVF, isB_mk]
theorem match2_no {f g : Val → Bool} {w : List Val} : w.length ≠ 2 → (match w with | [x, y] => f x && g y | _ => false) = false := by
  intro h
  match w, h with
  | [], _ => rfl
  | [_], _ => rfl
  | [_, _], h => exact absurd rfl h
  | _ :: _ :: _ :: _, _ => rfl
theorem match1_no {c : List (List Tk)} : ¬ c = [] → c.length ≠ 1 → (match c with | [] => true | [c] => decide (0 < c.length) && isClockF c | _ => false) = false := by
  intro h0 h
  match c, h0, h with
  | [], h, _ => exact absurd rfl h
  | [_], _, h => exact absurd rfl h
  | _ :: _ :: _, _, _ => rfl
theorem k8_of {k : Int} {n : Nat} (h : partsF k = (n : Int)) : k = 1 ∨ k = 2 ∨ k = 3 ∨ k = 4 ∨ k = 5 ∨ k = 6 ∨ k = 7 ∨ k = 8 := by
  unfold partsF at h
  split at h
  · omega
  · split at h
    · omega
    · split at h <;> omega
theorem short_any (l : List Bs) : (!(l.any fun s => decide (16 < s.length))) = shortF l := by
  unfold shortF
  rw [Bool.eq_iff_iff]
  simp
theorem any_all {l : List Val} {f g : Val → Bool} : (!(l.any fun x => !f x || g x)) = l.all fun x => f x && !g x := by
  rw [Bool.eq_iff_iff]
  simp
theorem any_all' {l : List Val} {f : Val → Bool} : (!(l.any fun x => !f x)) = l.all f := by
  rw [Bool.eq_iff_iff]
  simp


theorem xIndex_spec (S : MS) (l : List Bs) (p : Bs → Bool) (kf : FuncId) (first caps : List MV) (hco : CallOk Try.prog kf) (hp : ∀ x ∈ l, ∀ X : MS, MCalls Try.prog kf (first ++ [encX x] ++ caps) (S ++ X) fun v σ' => v = .bool (p x) ∧ σ' = S ++ X) : MCalls Try.prog 67 [.lst none 1 (l.map encX), .fn (.func kf) first caps] S fun v σ' => v = .int .i64 (findGo p 0 l) ∧ σ' = S := by
  refine mcalls_body Try.func67 rfl Try.ntmps67 (Nat.le_of_ble_eq_true rfl) ?_
  refine mwp_len (t := 0) rfl fun hlen => ?_
  rw [List.length_map] at hlen
  refine mwp_seq ?_
  refine mwp_region rfl ?_
  refine wOps_op rfl (op_assign rfl rfl ?_)
  refine wOps_nil ?_
  refine mwp_seq ?_
  refine mwp_seq ?_
  refine mwp_region rfl ?_
  refine wOps_op rfl (op_move rfl rfl ?_)
  refine wOps_op rfl (op_len_lst rfl Try.underlying26 rfl ?_)
  refine wOps_op rfl (op_move rfl rfl ?_)
  refine wOps_nil ?_
  refine mwp_block ?_
  refine mwp_loopK (α := Nat) [(0, _), (1, _), (7, _)] (fun i => [(8, .int .i64 (i : Int))]) (fun i => []) (fun i => i ≤ l.length ∧ findGo p i (l.drop i) = findGo p 0 l) (fun i => l.length - i) (0) (.keep rfl (.keep rfl (.keep rfl (.nil)))) (.keep rfl (.nil)) (⟨by omega, rfl⟩) (rfl) ?_
  rintro i ⟨hi, he⟩
  refine mwp_seq ?_
  refine mwp_region rfl ?_
  refine wOps_op rfl (op_cmp rfl rfl rfl rfl ?_)
  refine wOps_nil ?_
  refine mwp_seq ?_
  refine mwp_cond_split rfl (fun h9 => ?_) (fun h9 => ?_)
  · -- yes
    rw [List.length_map] at h9
    have hlt : i < l.length := by simpa using h9
    obtain ⟨x, hs⟩ : ∃ x, l[i]? = some x := ⟨_, List.getElem?_eq_getElem hlt⟩
    refine mwp_skip ?_
    refine mwp_seq ?_
    refine mwp_block ?_
    refine mwp_seq ?_
    refine mwp_region rfl ?_
    refine wOps_op rfl (op_move rfl rfl ?_)
    refine wOps_op rfl (op_assign rfl rfl ?_)
    refine wOps_nil ?_
    refine mwp_seq ?_
    refine mwp_region rfl ?_
    refine wOps_op rfl (op_move rfl rfl ?_)
    refine wOps_op rfl (op_move rfl rfl ?_)
    refine wOps_op rfl (op_move rfl rfl ?_)
    refine wOps_op rfl (op_indexAddr rfl Try.underlying26 sz9 (by decide) rfl rfl rfl (get_map hs) ?_)
    refine wOps_op rfl (op_load_sptr rfl rfl ta9 rfl ?_)
    refine wOps_op rfl (op_call rfl rfl rfl hco ((hp _ (List.mem_of_getElem? hs) _).mono ?_))
    rintro _ _ ⟨rfl, rfl⟩
    refine wOps_nil ?_
    refine mwp_cond_split rfl (fun h16 => ?_) (fun h16 => ?_)
    · -- yes
      refine mwp_seq ?_
      refine mwp_region rfl ?_
      refine wOps_op rfl (op_move rfl rfl ?_)
      refine wOps_op rfl (op_assign rfl rfl ?_)
      refine wOps_nil ?_
      refine mwp_ret ?_
      exact ret_tmp (.inr rfl) Try.results67 rfl (.of_eq (by rw [← he, find_at hs, h16]; rfl)) (.int _ _) ⟨rfl, rfl⟩
    · -- no
      refine mwp_skip ?_
      refine mwp_region rfl ?_
      refine wOps_op rfl (op_arith rfl rfl rfl rfl ?_)
      refine wOps_op rfl (op_move rfl rfl ?_)
      refine wOps_nil ?_
      refine ⟨i + 1, by omega, ⟨by omega, by rw [← he, find_at hs, h16]; rfl⟩, rfl, (.keep rfl (.keep rfl (.keep rfl (.nil)))), (.eq rfl (int_succ hlt hlen) (.nil))⟩
  · -- no
    rw [List.length_map] at h9
    have hge : i = l.length := by simp at h9; omega
    refine mwp_exit ?_
    refine mwp_seq ?_
    refine mwp_region rfl ?_
    refine wOps_op rfl (op_assign rfl rfl ?_)
    refine wOps_nil ?_
    refine mwp_ret ?_
    exact ret_tmp (.inr rfl) Try.results67 rfl (.of_eq (by rw [← he, hge, List.drop_length]; rfl)) (.int _ _) ⟨rfl, rfl⟩

theorem xContains_spec (S : MS) (l : List Bs) (p : Bs → Bool) (kf : FuncId) (first caps : List MV) (hco : CallOk Try.prog kf) (hp : ∀ x ∈ l, ∀ X : MS, MCalls Try.prog kf (first ++ [encX x] ++ caps) (S ++ X) fun v σ' => v = .bool (p x) ∧ σ' = S ++ X) : MCalls Try.prog 56 [.lst none 1 (l.map encX), .fn (.func kf) first caps] S fun v σ' => v = .bool (l.any p) ∧ σ' = S := by
  refine mcalls_body Try.func56 rfl Try.ntmps56 (Nat.le_of_ble_eq_true rfl) ?_
  refine mwp_seq ?_
  refine mwp_region rfl ?_
  refine wOps_op rfl (op_assign rfl rfl ?_)
  refine wOps_nil ?_
  refine mwp_seq ?_
  refine mwp_region rfl ?_
  refine wOps_op rfl (op_move rfl rfl ?_)
  refine wOps_op rfl (op_move rfl rfl ?_)
  refine wOps_op rfl (op_call rfl rfl rfl co67 ((xIndex_spec (S ++ []) l p kf first caps hco (by rw [List.append_nil]; exact hp)).mono ?_))
  rintro _ _ ⟨rfl, rfl⟩
  refine wOps_op rfl (op_cmp rfl rfl rfl rfl ?_)
  refine wOps_op rfl (op_assign rfl rfl ?_)
  refine wOps_nil ?_
  refine mwp_ret ?_
  exact ret_tmp (.inr rfl) Try.results56 rfl (.of_eq (by rw [find_any p 0 l])) (.bool _) ⟨rfl, rfl⟩

theorem vIndex_spec (S : MS) (l : List Val) (p : Val → Bool) (kf : FuncId) (first caps : List MV) (hco : CallOk Try.prog kf) (hp : ∀ x ∈ l, ∀ X : MS, MCalls Try.prog kf (first ++ [encV x] ++ caps) (S ++ X) fun v σ' => v = .bool (p x) ∧ σ' = S ++ X) : MCalls Try.prog 58 [.lst none 5 (encVs l), .fn (.func kf) first caps] S fun v σ' => v = .int .i64 (findGo p 0 l) ∧ σ' = S := by
  refine mcalls_body Try.func58 rfl Try.ntmps58 (Nat.le_of_ble_eq_true rfl) ?_
  refine mwp_len (t := 0) rfl fun hlen => ?_
  rw [encVs_length] at hlen
  refine mwp_seq ?_
  refine mwp_region rfl ?_
  refine wOps_op rfl (op_assign rfl rfl ?_)
  refine wOps_nil ?_
  refine mwp_seq ?_
  refine mwp_seq ?_
  refine mwp_region rfl ?_
  refine wOps_op rfl (op_move rfl rfl ?_)
  refine wOps_op rfl (op_len_lst rfl Try.underlying28 rfl ?_)
  refine wOps_op rfl (op_move rfl rfl ?_)
  refine wOps_nil ?_
  refine mwp_block ?_
  refine mwp_loopK (α := Nat) [(0, _), (1, _), (7, _)] (fun i => [(8, .int .i64 (i : Int))]) (fun i => []) (fun i => i ≤ l.length ∧ findGo p i (l.drop i) = findGo p 0 l) (fun i => l.length - i) (0) (.keep rfl (.keep rfl (.keep rfl (.nil)))) (.keep rfl (.nil)) (⟨by omega, rfl⟩) (rfl) ?_
  rintro i ⟨hi, he⟩
  refine mwp_seq ?_
  refine mwp_region rfl ?_
  refine wOps_op rfl (op_cmp rfl rfl rfl rfl ?_)
  refine wOps_nil ?_
  refine mwp_seq ?_
  refine mwp_cond_split rfl (fun h9 => ?_) (fun h9 => ?_)
  · -- yes
    rw [encVs_length] at h9
    have hlt : i < l.length := by simpa using h9
    obtain ⟨x, hs⟩ : ∃ x, l[i]? = some x := ⟨_, List.getElem?_eq_getElem hlt⟩
    obtain ⟨n1, m1, s1, c1, w1⟩ := x
    refine mwp_skip ?_
    refine mwp_seq ?_
    refine mwp_block ?_
    refine mwp_seq ?_
    refine mwp_region rfl ?_
    refine wOps_op rfl (op_move rfl rfl ?_)
    refine wOps_op rfl (op_assign rfl rfl ?_)
    refine wOps_nil ?_
    refine mwp_seq ?_
    refine mwp_region rfl ?_
    refine wOps_op rfl (op_move rfl rfl ?_)
    refine wOps_op rfl (op_move rfl rfl ?_)
    refine wOps_op rfl (op_move rfl rfl ?_)
    refine wOps_op rfl (op_indexAddr rfl Try.underlying28 sz30 (by decide) rfl rfl rfl (encVs_get hs) ?_)
    refine wOps_op rfl (op_load_sptr rfl rfl ta30 rfl ?_)
    refine wOps_op rfl (op_call rfl rfl rfl hco ((hp _ (List.mem_of_getElem? hs) _).mono ?_))
    rintro _ _ ⟨rfl, rfl⟩
    refine wOps_nil ?_
    refine mwp_cond_split rfl (fun h16 => ?_) (fun h16 => ?_)
    · -- yes
      refine mwp_seq ?_
      refine mwp_region rfl ?_
      refine wOps_op rfl (op_move rfl rfl ?_)
      refine wOps_op rfl (op_assign rfl rfl ?_)
      refine wOps_nil ?_
      refine mwp_ret ?_
      exact ret_tmp (.inr rfl) Try.results58 rfl (.of_eq (by rw [← he, find_at hs, h16]; rfl)) (.int _ _) ⟨rfl, rfl⟩
    · -- no
      refine mwp_skip ?_
      refine mwp_region rfl ?_
      refine wOps_op rfl (op_arith rfl rfl rfl rfl ?_)
      refine wOps_op rfl (op_move rfl rfl ?_)
      refine wOps_nil ?_
      refine ⟨i + 1, by omega, ⟨by omega, by rw [← he, find_at hs, h16]; rfl⟩, rfl, (.keep rfl (.keep rfl (.keep rfl (.nil)))), (.eq rfl (int_succ hlt hlen) (.nil))⟩
  · -- no
    rw [encVs_length] at h9
    have hge : i = l.length := by simp at h9; omega
    refine mwp_exit ?_
    refine mwp_seq ?_
    refine mwp_region rfl ?_
    refine wOps_op rfl (op_assign rfl rfl ?_)
    refine wOps_nil ?_
    refine mwp_ret ?_
    exact ret_tmp (.inr rfl) Try.results58 rfl (.of_eq (by rw [← he, hge, List.drop_length]; rfl)) (.int _ _) ⟨rfl, rfl⟩

theorem vContains_spec (S : MS) (l : List Val) (p : Val → Bool) (kf : FuncId) (first caps : List MV) (hco : CallOk Try.prog kf) (hp : ∀ x ∈ l, ∀ X : MS, MCalls Try.prog kf (first ++ [encV x] ++ caps) (S ++ X) fun v σ' => v = .bool (p x) ∧ σ' = S ++ X) : MCalls Try.prog 37 [.lst none 5 (encVs l), .fn (.func kf) first caps] S fun v σ' => v = .bool (l.any p) ∧ σ' = S := by
  refine mcalls_body Try.func37 rfl Try.ntmps37 (Nat.le_of_ble_eq_true rfl) ?_
  refine mwp_seq ?_
  refine mwp_region rfl ?_
  refine wOps_op rfl (op_assign rfl rfl ?_)
  refine wOps_nil ?_
  refine mwp_seq ?_
  refine mwp_region rfl ?_
  refine wOps_op rfl (op_move rfl rfl ?_)
  refine wOps_op rfl (op_move rfl rfl ?_)
  refine wOps_op rfl (op_call rfl rfl rfl co58 ((vIndex_spec (S ++ []) l p kf first caps hco (by rw [List.append_nil]; exact hp)).mono ?_))
  rintro _ _ ⟨rfl, rfl⟩
  refine wOps_op rfl (op_cmp rfl rfl rfl rfl ?_)
  refine wOps_op rfl (op_assign rfl rfl ?_)
  refine wOps_nil ?_
  refine mwp_ret ?_
  exact ret_tmp (.inr rfl) Try.results37 rfl (.of_eq (by rw [find_any p 0 l])) (.bool _) ⟨rfl, rfl⟩

theorem isRow1_spec (s : Bs) (S : MS) : MCalls Try.prog 57 [.str (bs s)] S fun v σ' => v = .bool (decide (16 < s.length)) ∧ σ' = S := by
  refine mcalls_body Try.func57 rfl Try.ntmps57 (Nat.le_of_ble_eq_true rfl) ?_
  refine mwp_seq ?_
  refine mwp_region rfl ?_
  refine wOps_op rfl (op_assign rfl rfl ?_)
  refine wOps_nil ?_
  refine mwp_seq ?_
  refine mwp_region rfl ?_
  refine wOps_op rfl (op_move rfl rfl ?_)
  refine wOps_op rfl (op_len_bs rfl Try.underlying9 rfl ?_)
  refine wOps_op rfl (op_cmp rfl rfl rfl rfl ?_)
  refine wOps_op rfl (op_assign rfl rfl ?_)
  refine wOps_nil ?_
  refine mwp_ret ?_
  exact ret_tmp (.inr rfl) Try.results57 rfl (.of_eq (by congr 1; rw [Bool.eq_iff_iff]; simp; omega)) (.bool _) ⟨rfl, rfl⟩

theorem isRow_spec (l : List Bs) (S : MS) : MCalls Try.prog 36 [.lst none 1 (l.map encX)] S fun v σ' => v = .bool (isRowF l) ∧ σ' = S := by
  refine mcalls_body Try.func36 rfl Try.ntmps36 (Nat.le_of_ble_eq_true rfl) ?_
  refine mwp_seq ?_
  refine mwp_region rfl ?_
  refine wOps_op rfl (op_assign rfl rfl ?_)
  refine wOps_nil ?_
  refine mwp_seq ?_
  refine mwp_region rfl ?_
  refine wOps_op rfl (op_move rfl rfl ?_)
  refine wOps_op rfl (op_len_lst rfl Try.underlying26 rfl ?_)
  refine wOps_op rfl (op_cmp rfl rfl rfl rfl ?_)
  refine wOps_op rfl (op_move rfl rfl ?_)
  refine wOps_case (fun h6 => ?_) (fun h6 => ?_)
  ·
    refine wOps_op rfl (op_move rfl rfl ?_)
    refine wOps_op rfl (op_call rfl rfl rfl co55 ((rowsIs_spec l _).mono ?_))
    rintro _ _ ⟨rfl, rfl⟩
    refine wOps_op rfl (op_pick rfl rfl rfl ?_)
    refine wOps_op rfl (op_move rfl rfl ?_)
    refine wOps_case (fun h10 => ?_) (fun h10 => ?_)
    ·
      refine wOps_op rfl (op_move rfl rfl ?_)
      refine wOps_op rfl (op_call rfl rfl rfl co56 ((xContains_spec _ l (fun s => decide (16 < s.length)) _ [] [] co57 (fun x _ X => isRow1_spec x _)).mono ?_))
      rintro _ _ ⟨rfl, rfl⟩
      refine wOps_op rfl (op_not rfl rfl ?_)
      refine wOps_op rfl (op_pick rfl rfl rfl ?_)
      refine wOps_op rfl (op_assign rfl rfl ?_)
      refine wOps_nil ?_
      refine mwp_ret ?_
      exact ret_tmp (.inr rfl) Try.results36 rfl (.of_eq (by congr 1; unfold isRowF; rw [← short_any, Bool.eq_iff_iff]; simp_all <;> omega)) (.bool _) ⟨rfl, rfl⟩
    ·
      refine wOps_skip rfl ?_
      refine wOps_skip rfl ?_
      refine wOps_skip rfl ?_
      refine wOps_op rfl (op_pick rfl rfl rfl ?_)
      refine wOps_op rfl (op_assign rfl rfl ?_)
      refine wOps_nil ?_
      refine mwp_ret ?_
      exact ret_tmp (.inr rfl) Try.results36 rfl (.of_eq (by congr 1; unfold isRowF; rw [← short_any, Bool.eq_iff_iff]; simp_all <;> omega)) (.bool _) ⟨rfl, rfl⟩
  ·
    refine wOps_skip rfl ?_
    refine wOps_skip rfl ?_
    refine wOps_op rfl (op_pick rfl rfl rfl ?_)
    refine wOps_op rfl (op_move rfl rfl ?_)
    refine wOps_skip rfl ?_
    refine wOps_skip rfl ?_
    refine wOps_skip rfl ?_
    refine wOps_op rfl (op_pick rfl rfl rfl ?_)
    refine wOps_op rfl (op_assign rfl rfl ?_)
    refine wOps_nil ?_
    refine mwp_ret ?_
    exact ret_tmp (.inr rfl) Try.results36 rfl (.of_eq (by congr 1; unfold isRowF; rw [← short_any, Bool.eq_iff_iff]; simp_all <;> omega)) (.bool _) ⟨rfl, rfl⟩

theorem isLast_spec (n m : Int) (s : List Bs) (c : List (List Tk)) (w : List Val) (hn : 0 ≤ n) (hm : 0 ≤ m) (S : MS) : MCalls Try.prog 39 [encV (.mk n m s c w)] S fun v σ' => v = .bool (isLastF n m s) ∧ σ' = S := by
  refine mcalls_body Try.func39 rfl Try.ntmps39 (Nat.le_of_ble_eq_true rfl) ?_
  refine mwp_seq ?_
  refine mwp_region rfl ?_
  refine wOps_op rfl (op_box' rfl rfl rfl rfl ?_)
  refine wOps_op rfl (op_assign rfl rfl ?_)
  refine wOps_nil ?_
  refine mwp_seq ?_
  refine mwp_seq ?_
  refine mwp_region rfl ?_
  refine wOps_op rfl (op_fieldAddr_ref rfl rfl fo30_2 ?_)
  refine wOps_op rfl (op_load' rfl rfl rfl ta26 rfl ?_)
  refine wOps_op rfl (op_len_lst rfl Try.underlying26 rfl ?_)
  refine wOps_op rfl (op_cmp rfl rfl rfl rfl ?_)
  refine wOps_nil ?_
  refine mwp_cond_split rfl (fun h6 => ?_) (fun h6 => ?_)
  · -- yes
    have hs0 : s = [] := by simpa using h6
    subst hs0
    refine mwp_seq ?_
    refine mwp_region rfl ?_
    refine wOps_op rfl (op_fieldAddr_ref rfl rfl fo30_0 ?_)
    refine wOps_op rfl (op_load' rfl rfl rfl ta25 rfl ?_)
    refine wOps_op rfl (op_cmp rfl rfl rfl rfl ?_)
    refine wOps_op rfl (op_move rfl rfl ?_)
    refine wOps_case (fun h10 => ?_) (fun h10 => ?_)
    ·
      refine wOps_op rfl (op_fieldAddr_ref rfl rfl fo30_1 ?_)
      refine wOps_op rfl (op_load' rfl rfl rfl ta25 rfl ?_)
      refine wOps_op rfl (op_cmp rfl rfl rfl rfl ?_)
      refine wOps_op rfl (op_pick rfl rfl rfl ?_)
      refine wOps_op rfl (op_assign rfl rfl ?_)
      refine wOps_nil ?_
      refine mwp_ret ?_
      exact ret_tmp (.inr rfl) Try.results39 rfl (.of_eq (by first | (rw [hF]; done) | (congr 1; rw [Bool.eq_iff_iff]; simp_all [isLastF]; done) | (congr 1; rw [Bool.eq_iff_iff]; simp_all [isLastF]; omega))) (.bool _) ⟨rfl, rfl⟩
    ·
      refine wOps_skip rfl ?_
      refine wOps_skip rfl ?_
      refine wOps_skip rfl ?_
      refine wOps_op rfl (op_pick rfl rfl rfl ?_)
      refine wOps_op rfl (op_assign rfl rfl ?_)
      refine wOps_nil ?_
      refine mwp_ret ?_
      exact ret_tmp (.inr rfl) Try.results39 rfl (.of_eq (by first | (rw [hF]; done) | (congr 1; rw [Bool.eq_iff_iff]; simp_all [isLastF]; done) | (congr 1; rw [Bool.eq_iff_iff]; simp_all [isLastF]; omega))) (.bool _) ⟨rfl, rfl⟩
  · -- no
    have hs0 : ¬ s = [] := by simpa using h6
    refine mwp_skip ?_
    refine mwp_seq ?_
    refine mwp_region rfl ?_
    refine wOps_op rfl (op_fieldAddr_ref rfl rfl fo30_2 ?_)
    refine wOps_op rfl (op_load' rfl rfl rfl ta26 rfl ?_)
    refine wOps_op rfl (op_len_lst rfl Try.underlying26 rfl ?_)
    refine wOps_op rfl (op_cmp rfl rfl rfl rfl ?_)
    refine wOps_op rfl (op_move rfl rfl ?_)
    refine wOps_case (fun h19 => ?_) (fun h19 => ?_)
    ·
      obtain ⟨t, rfl⟩ := one_of (by rw [List.length_map] at h19; simp at h19; omega : s.length = 1)
      refine wOps_op rfl (op_fieldAddr_ref rfl rfl fo30_2 ?_)
      refine wOps_op rfl (op_load' rfl rfl rfl ta26 rfl ?_)
      refine wOps_op rfl (op_indexAddr rfl Try.underlying26 sz9 (by decide) rfl rfl rfl (show _ = some (encX t) from rfl) ?_)
      refine wOps_op rfl (op_load_sptr rfl rfl ta9 rfl ?_)
      refine wOps_op rfl (op_len_bs rfl Try.underlying9 rfl ?_)
      refine wOps_op rfl (op_cmp rfl rfl rfl rfl ?_)
      refine wOps_op rfl (op_pick rfl rfl rfl ?_)
      refine wOps_op rfl (op_move rfl rfl ?_)
      refine wOps_case (fun h27 => ?_) (fun h27 => ?_)
      ·
        have h27n : t.length ≤ 16 := by simp at h27; omega
        refine wOps_op rfl (op_fieldAddr_ref rfl rfl fo30_0 ?_)
        refine wOps_op rfl (op_load' rfl rfl rfl ta25 rfl ?_)
        refine wOps_op rfl (op_cmp rfl rfl rfl rfl ?_)
        refine wOps_op rfl (op_move rfl rfl ?_)
        refine wOps_case (fun h31 => ?_) (fun h31 => ?_)
        ·
          refine wOps_skip rfl ?_
          refine wOps_skip rfl ?_
          refine wOps_skip rfl ?_
          refine wOps_op rfl (op_pick rfl rfl rfl ?_)
          refine wOps_op rfl (op_move rfl rfl ?_)
          refine wOps_skip rfl ?_
          refine wOps_skip rfl ?_
          refine wOps_skip rfl ?_
          refine wOps_skip rfl ?_
          refine wOps_skip rfl ?_
          refine wOps_op rfl (op_pick rfl rfl rfl ?_)
          refine wOps_op rfl (op_pick rfl rfl rfl ?_)
          refine wOps_op rfl (op_assign rfl rfl ?_)
          refine wOps_nil ?_
          refine mwp_ret ?_
          exact ret_tmp (.inr rfl) Try.results39 rfl (.of_eq (by first | (rw [hF]; done) | (congr 1; rw [Bool.eq_iff_iff]; simp_all [isLastF]; done) | (congr 1; rw [Bool.eq_iff_iff]; simp_all [isLastF]; omega))) (.bool _) ⟨rfl, rfl⟩
        ·
          have hn0 : n = 0 := by simp at h31; omega
          subst hn0
          refine wOps_op rfl (op_fieldAddr_ref rfl rfl fo30_1 ?_)
          refine wOps_op rfl (op_load' rfl rfl rfl ta25 rfl ?_)
          refine wOps_op rfl (op_cmp rfl rfl rfl rfl ?_)
          refine wOps_op rfl (op_pick rfl rfl rfl ?_)
          refine wOps_op rfl (op_move rfl rfl ?_)
          refine wOps_case (fun h36 => ?_) (fun h36 => ?_)
          ·
            refine wOps_skip rfl ?_
            refine wOps_skip rfl ?_
            refine wOps_skip rfl ?_
            refine wOps_skip rfl ?_
            refine wOps_skip rfl ?_
            refine wOps_op rfl (op_pick rfl rfl rfl ?_)
            refine wOps_op rfl (op_pick rfl rfl rfl ?_)
            refine wOps_op rfl (op_assign rfl rfl ?_)
            refine wOps_nil ?_
            refine mwp_ret ?_
            exact ret_tmp (.inr rfl) Try.results39 rfl (.of_eq (by first | (rw [hF]; done) | (congr 1; rw [Bool.eq_iff_iff]; simp_all [isLastF]; done) | (congr 1; rw [Bool.eq_iff_iff]; simp_all [isLastF]; omega))) (.bool _) ⟨rfl, rfl⟩
          ·
            have hm0 : m = 0 := by simp at h36; omega
            subst hm0
            refine wOps_op rfl (op_fieldAddr_ref rfl rfl fo30_2 ?_)
            refine wOps_op rfl (op_load' rfl rfl rfl ta26 rfl ?_)
            refine wOps_op rfl (op_indexAddr rfl Try.underlying26 sz9 (by decide) rfl rfl rfl (show _ = some (encX t) from rfl) ?_)
            refine wOps_op rfl (op_load_sptr rfl rfl ta9 rfl ?_)
            refine wOps_op rfl (op_strcmp rfl rfl rfl rfl ?_)
            refine wOps_op rfl (op_pick rfl rfl rfl ?_)
            refine wOps_op rfl (op_pick rfl rfl rfl ?_)
            refine wOps_op rfl (op_assign rfl rfl ?_)
            refine wOps_nil ?_
            refine mwp_ret ?_
            exact ret_tmp (.inr rfl) Try.results39 rfl (.of_eq (by first | (rw [hF]; done) | (congr 1; rw [Bool.eq_iff_iff]; simp_all [isLastF]; done) | (congr 1; rw [Bool.eq_iff_iff]; simp_all [isLastF]; omega))) (.bool _) ⟨rfl, rfl⟩
      ·
        refine wOps_skip rfl ?_
        refine wOps_skip rfl ?_
        refine wOps_skip rfl ?_
        refine wOps_skip rfl ?_
        refine wOps_skip rfl ?_
        refine wOps_skip rfl ?_
        refine wOps_skip rfl ?_
        refine wOps_skip rfl ?_
        refine wOps_skip rfl ?_
        refine wOps_skip rfl ?_
        refine wOps_skip rfl ?_
        refine wOps_skip rfl ?_
        refine wOps_skip rfl ?_
        refine wOps_skip rfl ?_
        refine wOps_skip rfl ?_
        refine wOps_op rfl (op_pick rfl rfl rfl ?_)
        refine wOps_op rfl (op_assign rfl rfl ?_)
        refine wOps_nil ?_
        refine mwp_ret ?_
        exact ret_tmp (.inr rfl) Try.results39 rfl (.of_eq (by first | (rw [hF]; done) | (congr 1; rw [Bool.eq_iff_iff]; simp_all [isLastF]; done) | (congr 1; rw [Bool.eq_iff_iff]; simp_all [isLastF]; omega))) (.bool _) ⟨rfl, rfl⟩
    ·
      have hF : isLastF n m s = false := last_no hs0 (fun e => by rw [List.length_map, e] at h19; simp at h19)
      refine wOps_skip rfl ?_
      refine wOps_skip rfl ?_
      refine wOps_skip rfl ?_
      refine wOps_skip rfl ?_
      refine wOps_skip rfl ?_
      refine wOps_skip rfl ?_
      refine wOps_op rfl (op_pick rfl rfl rfl ?_)
      refine wOps_op rfl (op_move rfl rfl ?_)
      refine wOps_skip rfl ?_
      refine wOps_skip rfl ?_
      refine wOps_skip rfl ?_
      refine wOps_skip rfl ?_
      refine wOps_skip rfl ?_
      refine wOps_skip rfl ?_
      refine wOps_skip rfl ?_
      refine wOps_skip rfl ?_
      refine wOps_skip rfl ?_
      refine wOps_skip rfl ?_
      refine wOps_skip rfl ?_
      refine wOps_skip rfl ?_
      refine wOps_skip rfl ?_
      refine wOps_skip rfl ?_
      refine wOps_skip rfl ?_
      refine wOps_op rfl (op_pick rfl rfl rfl ?_)
      refine wOps_op rfl (op_assign rfl rfl ?_)
      refine wOps_nil ?_
      refine mwp_ret ?_
      exact ret_tmp (.inr rfl) Try.results39 rfl (.of_eq (by first | (rw [hF]; done) | (congr 1; rw [Bool.eq_iff_iff]; simp_all [isLastF]; done) | (congr 1; rw [Bool.eq_iff_iff]; simp_all [isLastF]; omega))) (.bool _) ⟨rfl, rfl⟩

theorem bare_spec (k : Int) (hk : k = 1 ∨ k = 2 ∨ k = 3 ∨ k = 4 ∨ k = 5 ∨ k = 6 ∨ k = 7 ∨ k = 8) (n m : Int) (s : List Bs) (c : List (List Tk)) (w : List Val) (S : MS) : MCalls Try.prog 34 [.int .i64 k, encV (.mk n m s c w)] S fun v σ' => v = .bool (bareF k (.mk n m s c w)) ∧ σ' = S := by
  rcases hk with rfl | rfl | rfl | rfl | rfl | rfl | rfl | rfl
  ·
    refine mcalls_body Try.func34 rfl Try.ntmps34 (Nat.le_of_ble_eq_true rfl) ?_
    refine mwp_seq ?_
    refine mwp_region rfl ?_
    refine wOps_op rfl (op_box' rfl rfl rfl rfl ?_)
    refine wOps_op rfl (op_assign rfl rfl ?_)
    refine wOps_nil ?_
    refine mwp_seq ?_
    refine mwp_region rfl ?_
    refine wOps_op rfl (op_move rfl rfl ?_)
    refine wOps_op rfl (op_cmp rfl rfl rfl rfl ?_)
    refine wOps_op rfl (op_move rfl rfl ?_)
    refine wOps_skip rfl ?_
    refine wOps_skip rfl ?_
    refine wOps_op rfl (op_pick rfl rfl rfl ?_)
    refine wOps_op rfl (op_move rfl rfl ?_)
    refine wOps_skip rfl ?_
    refine wOps_skip rfl ?_
    refine wOps_op rfl (op_pick rfl rfl rfl ?_)
    refine wOps_op rfl (op_assign rfl rfl ?_)
    refine wOps_nil ?_
    refine mwp_seq ?_
    refine mwp_region rfl ?_
    refine wOps_op rfl (op_move rfl rfl ?_)
    refine wOps_op rfl (op_cmp rfl rfl rfl rfl ?_)
    refine wOps_op rfl (op_move rfl rfl ?_)
    refine wOps_op rfl (op_move rfl rfl ?_)
    refine wOps_op rfl (op_cmp rfl rfl rfl rfl ?_)
    refine wOps_op rfl (op_pick rfl rfl rfl ?_)
    refine wOps_op rfl (op_move rfl rfl ?_)
    refine wOps_op rfl (op_move rfl rfl ?_)
    refine wOps_op rfl (op_cmp rfl rfl rfl rfl ?_)
    refine wOps_op rfl (op_pick rfl rfl rfl ?_)
    refine wOps_op rfl (op_assign rfl rfl ?_)
    refine wOps_nil ?_
    refine mwp_seq ?_
    refine mwp_region rfl ?_
    refine wOps_op rfl (op_move rfl rfl ?_)
    refine wOps_op rfl (op_cmp rfl rfl rfl rfl ?_)
    refine wOps_op rfl (op_move rfl rfl ?_)
    refine wOps_op rfl (op_move rfl rfl ?_)
    refine wOps_op rfl (op_cmp rfl rfl rfl rfl ?_)
    refine wOps_op rfl (op_pick rfl rfl rfl ?_)
    refine wOps_op rfl (op_assign rfl rfl ?_)
    refine wOps_nil ?_
    refine mwp_seq ?_
    refine mwp_region rfl ?_
    refine wOps_op rfl (op_move rfl rfl ?_)
    refine wOps_op rfl (op_cmp rfl rfl rfl rfl ?_)
    refine wOps_op rfl (op_move rfl rfl ?_)
    refine wOps_op rfl (op_move rfl rfl ?_)
    refine wOps_op rfl (op_cmp rfl rfl rfl rfl ?_)
    refine wOps_op rfl (op_pick rfl rfl rfl ?_)
    refine wOps_op rfl (op_move rfl rfl ?_)
    refine wOps_op rfl (op_move rfl rfl ?_)
    refine wOps_op rfl (op_cmp rfl rfl rfl rfl ?_)
    refine wOps_op rfl (op_pick rfl rfl rfl ?_)
    refine wOps_op rfl (op_assign rfl rfl ?_)
    refine wOps_nil ?_
    refine mwp_seq ?_
    refine mwp_region rfl ?_
    refine wOps_op rfl (op_move rfl rfl ?_)
    refine wOps_op rfl (op_move rfl rfl ?_)
    refine wOps_skip rfl ?_
    refine wOps_skip rfl ?_
    refine wOps_skip rfl ?_
    refine wOps_op rfl (op_pick rfl rfl rfl ?_)
    refine wOps_op rfl (op_move rfl rfl ?_)
    refine wOps_op rfl (op_move rfl rfl ?_)
    refine wOps_op rfl (op_cmp rfl rfl rfl rfl ?_)
    refine wOps_op rfl (op_move rfl rfl ?_)
    refine wOps_op rfl (op_fieldAddr_ref rfl rfl fo30_1 ?_)
    refine wOps_op rfl (op_load' rfl rfl rfl ta25 rfl ?_)
    refine wOps_op rfl (op_cmp rfl rfl rfl rfl ?_)
    refine wOps_op rfl (op_pick rfl rfl rfl ?_)
    refine wOps_op rfl (op_pick rfl rfl rfl ?_)
    refine wOps_op rfl (op_move rfl rfl ?_)
    refine wOps_case (fun h60 => ?_) (fun h60 => ?_)
    ·
      refine wOps_op rfl (op_move rfl rfl ?_)
      refine wOps_op rfl (op_move rfl rfl ?_)
      refine wOps_op rfl (op_fieldAddr_ref rfl rfl fo30_2 ?_)
      refine wOps_op rfl (op_load' rfl rfl rfl ta26 rfl ?_)
      refine wOps_op rfl (op_len_lst rfl Try.underlying26 rfl ?_)
      refine wOps_op rfl (op_cmp rfl rfl rfl rfl ?_)
      refine wOps_op rfl (op_pick rfl rfl rfl ?_)
      refine wOps_op rfl (op_pick rfl rfl rfl ?_)
      refine wOps_op rfl (op_move rfl rfl ?_)
      refine wOps_case (fun h69 => ?_) (fun h69 => ?_)
      ·
        refine wOps_op rfl (op_move rfl rfl ?_)
        refine wOps_op rfl (op_move rfl rfl ?_)
        refine wOps_op rfl (op_fieldAddr_ref rfl rfl fo30_3 ?_)
        refine wOps_op rfl (op_load' rfl rfl rfl ta27 rfl ?_)
        refine wOps_op rfl (op_len_lst rfl Try.underlying27 rfl ?_)
        refine wOps_op rfl (op_cmp rfl rfl rfl rfl ?_)
        refine wOps_op rfl (op_pick rfl rfl rfl ?_)
        refine wOps_op rfl (op_pick rfl rfl rfl ?_)
        refine wOps_op rfl (op_move rfl rfl ?_)
        refine wOps_case (fun h78 => ?_) (fun h78 => ?_)
        ·
          refine wOps_op rfl (op_move rfl rfl ?_)
          refine wOps_op rfl (op_move rfl rfl ?_)
          refine wOps_op rfl (op_fieldAddr_ref rfl rfl fo30_4 ?_)
          refine wOps_op rfl (op_load' rfl rfl rfl ta28 rfl ?_)
          refine wOps_op rfl (op_len_lst rfl Try.underlying28 rfl ?_)
          try rw [encVs_length]
          refine wOps_op rfl (op_cmp rfl rfl rfl rfl ?_)
          refine wOps_op rfl (op_pick rfl rfl rfl ?_)
          refine wOps_op rfl (op_pick rfl rfl rfl ?_)
          refine wOps_op rfl (op_assign rfl rfl ?_)
          refine wOps_nil ?_
          refine mwp_ret ?_
          exact ret_tmp (.inr rfl) Try.results34 rfl (.of_eq (by congr 1; rw [Bool.eq_iff_iff]; simp_all [bareF, numsK, textsK, clocksK, valuesK, Val.nv, Val.mv, Val.sv, Val.cv, Val.vv])) (.bool _) ⟨rfl, rfl⟩
        ·
          refine wOps_skip rfl ?_
          refine wOps_skip rfl ?_
          refine wOps_skip rfl ?_
          refine wOps_skip rfl ?_
          refine wOps_skip rfl ?_
          refine wOps_skip rfl ?_
          refine wOps_skip rfl ?_
          refine wOps_op rfl (op_pick rfl rfl rfl ?_)
          refine wOps_op rfl (op_assign rfl rfl ?_)
          refine wOps_nil ?_
          refine mwp_ret ?_
          exact ret_tmp (.inr rfl) Try.results34 rfl (.of_eq (by congr 1; rw [Bool.eq_iff_iff]; simp_all [bareF, numsK, textsK, clocksK, valuesK, Val.nv, Val.mv, Val.sv, Val.cv, Val.vv])) (.bool _) ⟨rfl, rfl⟩
      ·
        refine wOps_skip rfl ?_
        refine wOps_skip rfl ?_
        refine wOps_skip rfl ?_
        refine wOps_skip rfl ?_
        refine wOps_skip rfl ?_
        refine wOps_skip rfl ?_
        refine wOps_skip rfl ?_
        refine wOps_op rfl (op_pick rfl rfl rfl ?_)
        refine wOps_op rfl (op_move rfl rfl ?_)
        refine wOps_skip rfl ?_
        refine wOps_skip rfl ?_
        refine wOps_skip rfl ?_
        refine wOps_skip rfl ?_
        refine wOps_skip rfl ?_
        refine wOps_skip rfl ?_
        refine wOps_skip rfl ?_
        refine wOps_op rfl (op_pick rfl rfl rfl ?_)
        refine wOps_op rfl (op_assign rfl rfl ?_)
        refine wOps_nil ?_
        refine mwp_ret ?_
        exact ret_tmp (.inr rfl) Try.results34 rfl (.of_eq (by congr 1; rw [Bool.eq_iff_iff]; simp_all [bareF, numsK, textsK, clocksK, valuesK, Val.nv, Val.mv, Val.sv, Val.cv, Val.vv])) (.bool _) ⟨rfl, rfl⟩
    ·
      refine wOps_skip rfl ?_
      refine wOps_skip rfl ?_
      refine wOps_skip rfl ?_
      refine wOps_skip rfl ?_
      refine wOps_skip rfl ?_
      refine wOps_skip rfl ?_
      refine wOps_skip rfl ?_
      refine wOps_op rfl (op_pick rfl rfl rfl ?_)
      refine wOps_op rfl (op_move rfl rfl ?_)
      refine wOps_skip rfl ?_
      refine wOps_skip rfl ?_
      refine wOps_skip rfl ?_
      refine wOps_skip rfl ?_
      refine wOps_skip rfl ?_
      refine wOps_skip rfl ?_
      refine wOps_skip rfl ?_
      refine wOps_op rfl (op_pick rfl rfl rfl ?_)
      refine wOps_op rfl (op_move rfl rfl ?_)
      refine wOps_skip rfl ?_
      refine wOps_skip rfl ?_
      refine wOps_skip rfl ?_
      refine wOps_skip rfl ?_
      refine wOps_skip rfl ?_
      refine wOps_skip rfl ?_
      refine wOps_skip rfl ?_
      refine wOps_op rfl (op_pick rfl rfl rfl ?_)
      refine wOps_op rfl (op_assign rfl rfl ?_)
      refine wOps_nil ?_
      refine mwp_ret ?_
      exact ret_tmp (.inr rfl) Try.results34 rfl (.of_eq (by congr 1; rw [Bool.eq_iff_iff]; simp_all [bareF, numsK, textsK, clocksK, valuesK, Val.nv, Val.mv, Val.sv, Val.cv, Val.vv])) (.bool _) ⟨rfl, rfl⟩
  ·
    refine mcalls_body Try.func34 rfl Try.ntmps34 (Nat.le_of_ble_eq_true rfl) ?_
    refine mwp_seq ?_
    refine mwp_region rfl ?_
    refine wOps_op rfl (op_box' rfl rfl rfl rfl ?_)
    refine wOps_op rfl (op_assign rfl rfl ?_)
    refine wOps_nil ?_
    refine mwp_seq ?_
    refine mwp_region rfl ?_
    refine wOps_op rfl (op_move rfl rfl ?_)
    refine wOps_op rfl (op_cmp rfl rfl rfl rfl ?_)
    refine wOps_op rfl (op_move rfl rfl ?_)
    refine wOps_op rfl (op_move rfl rfl ?_)
    refine wOps_op rfl (op_cmp rfl rfl rfl rfl ?_)
    refine wOps_op rfl (op_pick rfl rfl rfl ?_)
    refine wOps_op rfl (op_move rfl rfl ?_)
    refine wOps_skip rfl ?_
    refine wOps_skip rfl ?_
    refine wOps_op rfl (op_pick rfl rfl rfl ?_)
    refine wOps_op rfl (op_assign rfl rfl ?_)
    refine wOps_nil ?_
    refine mwp_seq ?_
    refine mwp_region rfl ?_
    refine wOps_op rfl (op_move rfl rfl ?_)
    refine wOps_op rfl (op_cmp rfl rfl rfl rfl ?_)
    refine wOps_op rfl (op_move rfl rfl ?_)
    refine wOps_op rfl (op_move rfl rfl ?_)
    refine wOps_op rfl (op_cmp rfl rfl rfl rfl ?_)
    refine wOps_op rfl (op_pick rfl rfl rfl ?_)
    refine wOps_op rfl (op_move rfl rfl ?_)
    refine wOps_op rfl (op_move rfl rfl ?_)
    refine wOps_op rfl (op_cmp rfl rfl rfl rfl ?_)
    refine wOps_op rfl (op_pick rfl rfl rfl ?_)
    refine wOps_op rfl (op_assign rfl rfl ?_)
    refine wOps_nil ?_
    refine mwp_seq ?_
    refine mwp_region rfl ?_
    refine wOps_op rfl (op_move rfl rfl ?_)
    refine wOps_op rfl (op_cmp rfl rfl rfl rfl ?_)
    refine wOps_op rfl (op_move rfl rfl ?_)
    refine wOps_op rfl (op_move rfl rfl ?_)
    refine wOps_op rfl (op_cmp rfl rfl rfl rfl ?_)
    refine wOps_op rfl (op_pick rfl rfl rfl ?_)
    refine wOps_op rfl (op_assign rfl rfl ?_)
    refine wOps_nil ?_
    refine mwp_seq ?_
    refine mwp_region rfl ?_
    refine wOps_op rfl (op_move rfl rfl ?_)
    refine wOps_op rfl (op_cmp rfl rfl rfl rfl ?_)
    refine wOps_op rfl (op_move rfl rfl ?_)
    refine wOps_op rfl (op_move rfl rfl ?_)
    refine wOps_op rfl (op_cmp rfl rfl rfl rfl ?_)
    refine wOps_op rfl (op_pick rfl rfl rfl ?_)
    refine wOps_op rfl (op_move rfl rfl ?_)
    refine wOps_op rfl (op_move rfl rfl ?_)
    refine wOps_op rfl (op_cmp rfl rfl rfl rfl ?_)
    refine wOps_op rfl (op_pick rfl rfl rfl ?_)
    refine wOps_op rfl (op_assign rfl rfl ?_)
    refine wOps_nil ?_
    refine mwp_seq ?_
    refine mwp_region rfl ?_
    refine wOps_op rfl (op_move rfl rfl ?_)
    refine wOps_op rfl (op_move rfl rfl ?_)
    refine wOps_skip rfl ?_
    refine wOps_skip rfl ?_
    refine wOps_skip rfl ?_
    refine wOps_op rfl (op_pick rfl rfl rfl ?_)
    refine wOps_op rfl (op_move rfl rfl ?_)
    refine wOps_op rfl (op_move rfl rfl ?_)
    refine wOps_op rfl (op_cmp rfl rfl rfl rfl ?_)
    refine wOps_op rfl (op_move rfl rfl ?_)
    refine wOps_op rfl (op_fieldAddr_ref rfl rfl fo30_1 ?_)
    refine wOps_op rfl (op_load' rfl rfl rfl ta25 rfl ?_)
    refine wOps_op rfl (op_cmp rfl rfl rfl rfl ?_)
    refine wOps_op rfl (op_pick rfl rfl rfl ?_)
    refine wOps_op rfl (op_pick rfl rfl rfl ?_)
    refine wOps_op rfl (op_move rfl rfl ?_)
    refine wOps_case (fun h60 => ?_) (fun h60 => ?_)
    ·
      refine wOps_op rfl (op_move rfl rfl ?_)
      refine wOps_op rfl (op_move rfl rfl ?_)
      refine wOps_op rfl (op_fieldAddr_ref rfl rfl fo30_2 ?_)
      refine wOps_op rfl (op_load' rfl rfl rfl ta26 rfl ?_)
      refine wOps_op rfl (op_len_lst rfl Try.underlying26 rfl ?_)
      refine wOps_op rfl (op_cmp rfl rfl rfl rfl ?_)
      refine wOps_op rfl (op_pick rfl rfl rfl ?_)
      refine wOps_op rfl (op_pick rfl rfl rfl ?_)
      refine wOps_op rfl (op_move rfl rfl ?_)
      refine wOps_case (fun h69 => ?_) (fun h69 => ?_)
      ·
        refine wOps_op rfl (op_move rfl rfl ?_)
        refine wOps_op rfl (op_move rfl rfl ?_)
        refine wOps_op rfl (op_fieldAddr_ref rfl rfl fo30_3 ?_)
        refine wOps_op rfl (op_load' rfl rfl rfl ta27 rfl ?_)
        refine wOps_op rfl (op_len_lst rfl Try.underlying27 rfl ?_)
        refine wOps_op rfl (op_cmp rfl rfl rfl rfl ?_)
        refine wOps_op rfl (op_pick rfl rfl rfl ?_)
        refine wOps_op rfl (op_pick rfl rfl rfl ?_)
        refine wOps_op rfl (op_move rfl rfl ?_)
        refine wOps_case (fun h78 => ?_) (fun h78 => ?_)
        ·
          refine wOps_op rfl (op_move rfl rfl ?_)
          refine wOps_op rfl (op_move rfl rfl ?_)
          refine wOps_op rfl (op_fieldAddr_ref rfl rfl fo30_4 ?_)
          refine wOps_op rfl (op_load' rfl rfl rfl ta28 rfl ?_)
          refine wOps_op rfl (op_len_lst rfl Try.underlying28 rfl ?_)
          try rw [encVs_length]
          refine wOps_op rfl (op_cmp rfl rfl rfl rfl ?_)
          refine wOps_op rfl (op_pick rfl rfl rfl ?_)
          refine wOps_op rfl (op_pick rfl rfl rfl ?_)
          refine wOps_op rfl (op_assign rfl rfl ?_)
          refine wOps_nil ?_
          refine mwp_ret ?_
          exact ret_tmp (.inr rfl) Try.results34 rfl (.of_eq (by congr 1; rw [Bool.eq_iff_iff]; simp_all [bareF, numsK, textsK, clocksK, valuesK, Val.nv, Val.mv, Val.sv, Val.cv, Val.vv])) (.bool _) ⟨rfl, rfl⟩
        ·
          refine wOps_skip rfl ?_
          refine wOps_skip rfl ?_
          refine wOps_skip rfl ?_
          refine wOps_skip rfl ?_
          refine wOps_skip rfl ?_
          refine wOps_skip rfl ?_
          refine wOps_skip rfl ?_
          refine wOps_op rfl (op_pick rfl rfl rfl ?_)
          refine wOps_op rfl (op_assign rfl rfl ?_)
          refine wOps_nil ?_
          refine mwp_ret ?_
          exact ret_tmp (.inr rfl) Try.results34 rfl (.of_eq (by congr 1; rw [Bool.eq_iff_iff]; simp_all [bareF, numsK, textsK, clocksK, valuesK, Val.nv, Val.mv, Val.sv, Val.cv, Val.vv])) (.bool _) ⟨rfl, rfl⟩
      ·
        refine wOps_skip rfl ?_
        refine wOps_skip rfl ?_
        refine wOps_skip rfl ?_
        refine wOps_skip rfl ?_
        refine wOps_skip rfl ?_
        refine wOps_skip rfl ?_
        refine wOps_skip rfl ?_
        refine wOps_op rfl (op_pick rfl rfl rfl ?_)
        refine wOps_op rfl (op_move rfl rfl ?_)
        refine wOps_skip rfl ?_
        refine wOps_skip rfl ?_
        refine wOps_skip rfl ?_
        refine wOps_skip rfl ?_
        refine wOps_skip rfl ?_
        refine wOps_skip rfl ?_
        refine wOps_skip rfl ?_
        refine wOps_op rfl (op_pick rfl rfl rfl ?_)
        refine wOps_op rfl (op_assign rfl rfl ?_)
        refine wOps_nil ?_
        refine mwp_ret ?_
        exact ret_tmp (.inr rfl) Try.results34 rfl (.of_eq (by congr 1; rw [Bool.eq_iff_iff]; simp_all [bareF, numsK, textsK, clocksK, valuesK, Val.nv, Val.mv, Val.sv, Val.cv, Val.vv])) (.bool _) ⟨rfl, rfl⟩
    ·
      refine wOps_skip rfl ?_
      refine wOps_skip rfl ?_
      refine wOps_skip rfl ?_
      refine wOps_skip rfl ?_
      refine wOps_skip rfl ?_
      refine wOps_skip rfl ?_
      refine wOps_skip rfl ?_
      refine wOps_op rfl (op_pick rfl rfl rfl ?_)
      refine wOps_op rfl (op_move rfl rfl ?_)
      refine wOps_skip rfl ?_
      refine wOps_skip rfl ?_
      refine wOps_skip rfl ?_
      refine wOps_skip rfl ?_
      refine wOps_skip rfl ?_
      refine wOps_skip rfl ?_
      refine wOps_skip rfl ?_
      refine wOps_op rfl (op_pick rfl rfl rfl ?_)
      refine wOps_op rfl (op_move rfl rfl ?_)
      refine wOps_skip rfl ?_
      refine wOps_skip rfl ?_
      refine wOps_skip rfl ?_
      refine wOps_skip rfl ?_
      refine wOps_skip rfl ?_
      refine wOps_skip rfl ?_
      refine wOps_skip rfl ?_
      refine wOps_op rfl (op_pick rfl rfl rfl ?_)
      refine wOps_op rfl (op_assign rfl rfl ?_)
      refine wOps_nil ?_
      refine mwp_ret ?_
      exact ret_tmp (.inr rfl) Try.results34 rfl (.of_eq (by congr 1; rw [Bool.eq_iff_iff]; simp_all [bareF, numsK, textsK, clocksK, valuesK, Val.nv, Val.mv, Val.sv, Val.cv, Val.vv])) (.bool _) ⟨rfl, rfl⟩
  ·
    refine mcalls_body Try.func34 rfl Try.ntmps34 (Nat.le_of_ble_eq_true rfl) ?_
    refine mwp_seq ?_
    refine mwp_region rfl ?_
    refine wOps_op rfl (op_box' rfl rfl rfl rfl ?_)
    refine wOps_op rfl (op_assign rfl rfl ?_)
    refine wOps_nil ?_
    refine mwp_seq ?_
    refine mwp_region rfl ?_
    refine wOps_op rfl (op_move rfl rfl ?_)
    refine wOps_op rfl (op_cmp rfl rfl rfl rfl ?_)
    refine wOps_op rfl (op_move rfl rfl ?_)
    refine wOps_op rfl (op_move rfl rfl ?_)
    refine wOps_op rfl (op_cmp rfl rfl rfl rfl ?_)
    refine wOps_op rfl (op_pick rfl rfl rfl ?_)
    refine wOps_op rfl (op_move rfl rfl ?_)
    refine wOps_op rfl (op_move rfl rfl ?_)
    refine wOps_op rfl (op_cmp rfl rfl rfl rfl ?_)
    refine wOps_op rfl (op_pick rfl rfl rfl ?_)
    refine wOps_op rfl (op_assign rfl rfl ?_)
    refine wOps_nil ?_
    refine mwp_seq ?_
    refine mwp_region rfl ?_
    refine wOps_op rfl (op_move rfl rfl ?_)
    refine wOps_op rfl (op_cmp rfl rfl rfl rfl ?_)
    refine wOps_op rfl (op_move rfl rfl ?_)
    refine wOps_skip rfl ?_
    refine wOps_skip rfl ?_
    refine wOps_op rfl (op_pick rfl rfl rfl ?_)
    refine wOps_op rfl (op_move rfl rfl ?_)
    refine wOps_skip rfl ?_
    refine wOps_skip rfl ?_
    refine wOps_op rfl (op_pick rfl rfl rfl ?_)
    refine wOps_op rfl (op_assign rfl rfl ?_)
    refine wOps_nil ?_
    refine mwp_seq ?_
    refine mwp_region rfl ?_
    refine wOps_op rfl (op_move rfl rfl ?_)
    refine wOps_op rfl (op_cmp rfl rfl rfl rfl ?_)
    refine wOps_op rfl (op_move rfl rfl ?_)
    refine wOps_op rfl (op_move rfl rfl ?_)
    refine wOps_op rfl (op_cmp rfl rfl rfl rfl ?_)
    refine wOps_op rfl (op_pick rfl rfl rfl ?_)
    refine wOps_op rfl (op_assign rfl rfl ?_)
    refine wOps_nil ?_
    refine mwp_seq ?_
    refine mwp_region rfl ?_
    refine wOps_op rfl (op_move rfl rfl ?_)
    refine wOps_op rfl (op_cmp rfl rfl rfl rfl ?_)
    refine wOps_op rfl (op_move rfl rfl ?_)
    refine wOps_op rfl (op_move rfl rfl ?_)
    refine wOps_op rfl (op_cmp rfl rfl rfl rfl ?_)
    refine wOps_op rfl (op_pick rfl rfl rfl ?_)
    refine wOps_op rfl (op_move rfl rfl ?_)
    refine wOps_op rfl (op_move rfl rfl ?_)
    refine wOps_op rfl (op_cmp rfl rfl rfl rfl ?_)
    refine wOps_op rfl (op_pick rfl rfl rfl ?_)
    refine wOps_op rfl (op_assign rfl rfl ?_)
    refine wOps_nil ?_
    refine mwp_seq ?_
    refine mwp_region rfl ?_
    refine wOps_op rfl (op_move rfl rfl ?_)
    refine wOps_op rfl (op_move rfl rfl ?_)
    refine wOps_op rfl (op_fieldAddr_ref rfl rfl fo30_0 ?_)
    refine wOps_op rfl (op_load' rfl rfl rfl ta25 rfl ?_)
    refine wOps_op rfl (op_cmp rfl rfl rfl rfl ?_)
    refine wOps_op rfl (op_pick rfl rfl rfl ?_)
    refine wOps_op rfl (op_move rfl rfl ?_)
    refine wOps_case (fun h51 => ?_) (fun h51 => ?_)
    ·
      refine wOps_op rfl (op_move rfl rfl ?_)
      refine wOps_op rfl (op_cmp rfl rfl rfl rfl ?_)
      refine wOps_op rfl (op_move rfl rfl ?_)
      refine wOps_op rfl (op_fieldAddr_ref rfl rfl fo30_1 ?_)
      refine wOps_op rfl (op_load' rfl rfl rfl ta25 rfl ?_)
      refine wOps_op rfl (op_cmp rfl rfl rfl rfl ?_)
      refine wOps_op rfl (op_pick rfl rfl rfl ?_)
      refine wOps_op rfl (op_pick rfl rfl rfl ?_)
      refine wOps_op rfl (op_move rfl rfl ?_)
      refine wOps_case (fun h60 => ?_) (fun h60 => ?_)
      ·
        refine wOps_op rfl (op_move rfl rfl ?_)
        refine wOps_op rfl (op_move rfl rfl ?_)
        refine wOps_skip rfl ?_
        refine wOps_skip rfl ?_
        refine wOps_skip rfl ?_
        refine wOps_skip rfl ?_
        refine wOps_op rfl (op_pick rfl rfl rfl ?_)
        refine wOps_op rfl (op_pick rfl rfl rfl ?_)
        refine wOps_op rfl (op_move rfl rfl ?_)
        refine wOps_op rfl (op_move rfl rfl ?_)
        refine wOps_op rfl (op_move rfl rfl ?_)
        refine wOps_op rfl (op_fieldAddr_ref rfl rfl fo30_3 ?_)
        refine wOps_op rfl (op_load' rfl rfl rfl ta27 rfl ?_)
        refine wOps_op rfl (op_len_lst rfl Try.underlying27 rfl ?_)
        refine wOps_op rfl (op_cmp rfl rfl rfl rfl ?_)
        refine wOps_op rfl (op_pick rfl rfl rfl ?_)
        refine wOps_op rfl (op_pick rfl rfl rfl ?_)
        refine wOps_op rfl (op_move rfl rfl ?_)
        refine wOps_case (fun h78 => ?_) (fun h78 => ?_)
        ·
          refine wOps_op rfl (op_move rfl rfl ?_)
          refine wOps_op rfl (op_move rfl rfl ?_)
          refine wOps_op rfl (op_fieldAddr_ref rfl rfl fo30_4 ?_)
          refine wOps_op rfl (op_load' rfl rfl rfl ta28 rfl ?_)
          refine wOps_op rfl (op_len_lst rfl Try.underlying28 rfl ?_)
          try rw [encVs_length]
          refine wOps_op rfl (op_cmp rfl rfl rfl rfl ?_)
          refine wOps_op rfl (op_pick rfl rfl rfl ?_)
          refine wOps_op rfl (op_pick rfl rfl rfl ?_)
          refine wOps_op rfl (op_assign rfl rfl ?_)
          refine wOps_nil ?_
          refine mwp_ret ?_
          exact ret_tmp (.inr rfl) Try.results34 rfl (.of_eq (by congr 1; rw [Bool.eq_iff_iff]; simp_all [bareF, numsK, textsK, clocksK, valuesK, Val.nv, Val.mv, Val.sv, Val.cv, Val.vv])) (.bool _) ⟨rfl, rfl⟩
        ·
          refine wOps_skip rfl ?_
          refine wOps_skip rfl ?_
          refine wOps_skip rfl ?_
          refine wOps_skip rfl ?_
          refine wOps_skip rfl ?_
          refine wOps_skip rfl ?_
          refine wOps_skip rfl ?_
          refine wOps_op rfl (op_pick rfl rfl rfl ?_)
          refine wOps_op rfl (op_assign rfl rfl ?_)
          refine wOps_nil ?_
          refine mwp_ret ?_
          exact ret_tmp (.inr rfl) Try.results34 rfl (.of_eq (by congr 1; rw [Bool.eq_iff_iff]; simp_all [bareF, numsK, textsK, clocksK, valuesK, Val.nv, Val.mv, Val.sv, Val.cv, Val.vv])) (.bool _) ⟨rfl, rfl⟩
      ·
        refine wOps_skip rfl ?_
        refine wOps_skip rfl ?_
        refine wOps_skip rfl ?_
        refine wOps_skip rfl ?_
        refine wOps_skip rfl ?_
        refine wOps_skip rfl ?_
        refine wOps_skip rfl ?_
        refine wOps_op rfl (op_pick rfl rfl rfl ?_)
        refine wOps_op rfl (op_move rfl rfl ?_)
        refine wOps_skip rfl ?_
        refine wOps_skip rfl ?_
        refine wOps_skip rfl ?_
        refine wOps_skip rfl ?_
        refine wOps_skip rfl ?_
        refine wOps_skip rfl ?_
        refine wOps_skip rfl ?_
        refine wOps_op rfl (op_pick rfl rfl rfl ?_)
        refine wOps_op rfl (op_move rfl rfl ?_)
        refine wOps_skip rfl ?_
        refine wOps_skip rfl ?_
        refine wOps_skip rfl ?_
        refine wOps_skip rfl ?_
        refine wOps_skip rfl ?_
        refine wOps_skip rfl ?_
        refine wOps_skip rfl ?_
        refine wOps_op rfl (op_pick rfl rfl rfl ?_)
        refine wOps_op rfl (op_assign rfl rfl ?_)
        refine wOps_nil ?_
        refine mwp_ret ?_
        exact ret_tmp (.inr rfl) Try.results34 rfl (.of_eq (by congr 1; rw [Bool.eq_iff_iff]; simp_all [bareF, numsK, textsK, clocksK, valuesK, Val.nv, Val.mv, Val.sv, Val.cv, Val.vv])) (.bool _) ⟨rfl, rfl⟩
    ·
      refine wOps_skip rfl ?_
      refine wOps_skip rfl ?_
      refine wOps_skip rfl ?_
      refine wOps_skip rfl ?_
      refine wOps_skip rfl ?_
      refine wOps_skip rfl ?_
      refine wOps_skip rfl ?_
      refine wOps_op rfl (op_pick rfl rfl rfl ?_)
      refine wOps_op rfl (op_move rfl rfl ?_)
      refine wOps_skip rfl ?_
      refine wOps_skip rfl ?_
      refine wOps_skip rfl ?_
      refine wOps_skip rfl ?_
      refine wOps_skip rfl ?_
      refine wOps_skip rfl ?_
      refine wOps_skip rfl ?_
      refine wOps_op rfl (op_pick rfl rfl rfl ?_)
      refine wOps_op rfl (op_move rfl rfl ?_)
      refine wOps_skip rfl ?_
      refine wOps_skip rfl ?_
      refine wOps_skip rfl ?_
      refine wOps_skip rfl ?_
      refine wOps_skip rfl ?_
      refine wOps_skip rfl ?_
      refine wOps_skip rfl ?_
      refine wOps_op rfl (op_pick rfl rfl rfl ?_)
      refine wOps_op rfl (op_move rfl rfl ?_)
      refine wOps_skip rfl ?_
      refine wOps_skip rfl ?_
      refine wOps_skip rfl ?_
      refine wOps_skip rfl ?_
      refine wOps_skip rfl ?_
      refine wOps_skip rfl ?_
      refine wOps_skip rfl ?_
      refine wOps_op rfl (op_pick rfl rfl rfl ?_)
      refine wOps_op rfl (op_assign rfl rfl ?_)
      refine wOps_nil ?_
      refine mwp_ret ?_
      exact ret_tmp (.inr rfl) Try.results34 rfl (.of_eq (by congr 1; rw [Bool.eq_iff_iff]; simp_all [bareF, numsK, textsK, clocksK, valuesK, Val.nv, Val.mv, Val.sv, Val.cv, Val.vv])) (.bool _) ⟨rfl, rfl⟩
  ·
    refine mcalls_body Try.func34 rfl Try.ntmps34 (Nat.le_of_ble_eq_true rfl) ?_
    refine mwp_seq ?_
    refine mwp_region rfl ?_
    refine wOps_op rfl (op_box' rfl rfl rfl rfl ?_)
    refine wOps_op rfl (op_assign rfl rfl ?_)
    refine wOps_nil ?_
    refine mwp_seq ?_
    refine mwp_region rfl ?_
    refine wOps_op rfl (op_move rfl rfl ?_)
    refine wOps_op rfl (op_cmp rfl rfl rfl rfl ?_)
    refine wOps_op rfl (op_move rfl rfl ?_)
    refine wOps_op rfl (op_move rfl rfl ?_)
    refine wOps_op rfl (op_cmp rfl rfl rfl rfl ?_)
    refine wOps_op rfl (op_pick rfl rfl rfl ?_)
    refine wOps_op rfl (op_move rfl rfl ?_)
    refine wOps_op rfl (op_move rfl rfl ?_)
    refine wOps_op rfl (op_cmp rfl rfl rfl rfl ?_)
    refine wOps_op rfl (op_pick rfl rfl rfl ?_)
    refine wOps_op rfl (op_assign rfl rfl ?_)
    refine wOps_nil ?_
    refine mwp_seq ?_
    refine mwp_region rfl ?_
    refine wOps_op rfl (op_move rfl rfl ?_)
    refine wOps_op rfl (op_cmp rfl rfl rfl rfl ?_)
    refine wOps_op rfl (op_move rfl rfl ?_)
    refine wOps_op rfl (op_move rfl rfl ?_)
    refine wOps_op rfl (op_cmp rfl rfl rfl rfl ?_)
    refine wOps_op rfl (op_pick rfl rfl rfl ?_)
    refine wOps_op rfl (op_move rfl rfl ?_)
    refine wOps_skip rfl ?_
    refine wOps_skip rfl ?_
    refine wOps_op rfl (op_pick rfl rfl rfl ?_)
    refine wOps_op rfl (op_assign rfl rfl ?_)
    refine wOps_nil ?_
    refine mwp_seq ?_
    refine mwp_region rfl ?_
    refine wOps_op rfl (op_move rfl rfl ?_)
    refine wOps_op rfl (op_cmp rfl rfl rfl rfl ?_)
    refine wOps_op rfl (op_move rfl rfl ?_)
    refine wOps_op rfl (op_move rfl rfl ?_)
    refine wOps_op rfl (op_cmp rfl rfl rfl rfl ?_)
    refine wOps_op rfl (op_pick rfl rfl rfl ?_)
    refine wOps_op rfl (op_assign rfl rfl ?_)
    refine wOps_nil ?_
    refine mwp_seq ?_
    refine mwp_region rfl ?_
    refine wOps_op rfl (op_move rfl rfl ?_)
    refine wOps_op rfl (op_cmp rfl rfl rfl rfl ?_)
    refine wOps_op rfl (op_move rfl rfl ?_)
    refine wOps_skip rfl ?_
    refine wOps_skip rfl ?_
    refine wOps_op rfl (op_pick rfl rfl rfl ?_)
    refine wOps_op rfl (op_move rfl rfl ?_)
    refine wOps_skip rfl ?_
    refine wOps_skip rfl ?_
    refine wOps_op rfl (op_pick rfl rfl rfl ?_)
    refine wOps_op rfl (op_assign rfl rfl ?_)
    refine wOps_nil ?_
    refine mwp_seq ?_
    refine mwp_region rfl ?_
    refine wOps_op rfl (op_move rfl rfl ?_)
    refine wOps_op rfl (op_move rfl rfl ?_)
    refine wOps_op rfl (op_fieldAddr_ref rfl rfl fo30_0 ?_)
    refine wOps_op rfl (op_load' rfl rfl rfl ta25 rfl ?_)
    refine wOps_op rfl (op_cmp rfl rfl rfl rfl ?_)
    refine wOps_op rfl (op_pick rfl rfl rfl ?_)
    refine wOps_op rfl (op_move rfl rfl ?_)
    refine wOps_case (fun h51 => ?_) (fun h51 => ?_)
    ·
      refine wOps_op rfl (op_move rfl rfl ?_)
      refine wOps_op rfl (op_cmp rfl rfl rfl rfl ?_)
      refine wOps_op rfl (op_move rfl rfl ?_)
      refine wOps_op rfl (op_fieldAddr_ref rfl rfl fo30_1 ?_)
      refine wOps_op rfl (op_load' rfl rfl rfl ta25 rfl ?_)
      refine wOps_op rfl (op_cmp rfl rfl rfl rfl ?_)
      refine wOps_op rfl (op_pick rfl rfl rfl ?_)
      refine wOps_op rfl (op_pick rfl rfl rfl ?_)
      refine wOps_op rfl (op_move rfl rfl ?_)
      refine wOps_case (fun h60 => ?_) (fun h60 => ?_)
      ·
        refine wOps_op rfl (op_move rfl rfl ?_)
        refine wOps_op rfl (op_move rfl rfl ?_)
        refine wOps_skip rfl ?_
        refine wOps_skip rfl ?_
        refine wOps_skip rfl ?_
        refine wOps_skip rfl ?_
        refine wOps_op rfl (op_pick rfl rfl rfl ?_)
        refine wOps_op rfl (op_pick rfl rfl rfl ?_)
        refine wOps_op rfl (op_move rfl rfl ?_)
        refine wOps_op rfl (op_move rfl rfl ?_)
        refine wOps_op rfl (op_move rfl rfl ?_)
        refine wOps_op rfl (op_fieldAddr_ref rfl rfl fo30_3 ?_)
        refine wOps_op rfl (op_load' rfl rfl rfl ta27 rfl ?_)
        refine wOps_op rfl (op_len_lst rfl Try.underlying27 rfl ?_)
        refine wOps_op rfl (op_cmp rfl rfl rfl rfl ?_)
        refine wOps_op rfl (op_pick rfl rfl rfl ?_)
        refine wOps_op rfl (op_pick rfl rfl rfl ?_)
        refine wOps_op rfl (op_move rfl rfl ?_)
        refine wOps_case (fun h78 => ?_) (fun h78 => ?_)
        ·
          refine wOps_op rfl (op_move rfl rfl ?_)
          refine wOps_op rfl (op_move rfl rfl ?_)
          refine wOps_skip rfl ?_
          refine wOps_skip rfl ?_
          refine wOps_skip rfl ?_
          refine wOps_skip rfl ?_
          refine wOps_op rfl (op_pick rfl rfl rfl ?_)
          refine wOps_op rfl (op_pick rfl rfl rfl ?_)
          refine wOps_op rfl (op_assign rfl rfl ?_)
          refine wOps_nil ?_
          refine mwp_ret ?_
          exact ret_tmp (.inr rfl) Try.results34 rfl (.of_eq (by congr 1; rw [Bool.eq_iff_iff]; simp_all [bareF, numsK, textsK, clocksK, valuesK, Val.nv, Val.mv, Val.sv, Val.cv, Val.vv])) (.bool _) ⟨rfl, rfl⟩
        ·
          refine wOps_skip rfl ?_
          refine wOps_skip rfl ?_
          refine wOps_skip rfl ?_
          refine wOps_skip rfl ?_
          refine wOps_skip rfl ?_
          refine wOps_skip rfl ?_
          refine wOps_skip rfl ?_
          refine wOps_op rfl (op_pick rfl rfl rfl ?_)
          refine wOps_op rfl (op_assign rfl rfl ?_)
          refine wOps_nil ?_
          refine mwp_ret ?_
          exact ret_tmp (.inr rfl) Try.results34 rfl (.of_eq (by congr 1; rw [Bool.eq_iff_iff]; simp_all [bareF, numsK, textsK, clocksK, valuesK, Val.nv, Val.mv, Val.sv, Val.cv, Val.vv])) (.bool _) ⟨rfl, rfl⟩
      ·
        refine wOps_skip rfl ?_
        refine wOps_skip rfl ?_
        refine wOps_skip rfl ?_
        refine wOps_skip rfl ?_
        refine wOps_skip rfl ?_
        refine wOps_skip rfl ?_
        refine wOps_skip rfl ?_
        refine wOps_op rfl (op_pick rfl rfl rfl ?_)
        refine wOps_op rfl (op_move rfl rfl ?_)
        refine wOps_skip rfl ?_
        refine wOps_skip rfl ?_
        refine wOps_skip rfl ?_
        refine wOps_skip rfl ?_
        refine wOps_skip rfl ?_
        refine wOps_skip rfl ?_
        refine wOps_skip rfl ?_
        refine wOps_op rfl (op_pick rfl rfl rfl ?_)
        refine wOps_op rfl (op_move rfl rfl ?_)
        refine wOps_skip rfl ?_
        refine wOps_skip rfl ?_
        refine wOps_skip rfl ?_
        refine wOps_skip rfl ?_
        refine wOps_skip rfl ?_
        refine wOps_skip rfl ?_
        refine wOps_skip rfl ?_
        refine wOps_op rfl (op_pick rfl rfl rfl ?_)
        refine wOps_op rfl (op_assign rfl rfl ?_)
        refine wOps_nil ?_
        refine mwp_ret ?_
        exact ret_tmp (.inr rfl) Try.results34 rfl (.of_eq (by congr 1; rw [Bool.eq_iff_iff]; simp_all [bareF, numsK, textsK, clocksK, valuesK, Val.nv, Val.mv, Val.sv, Val.cv, Val.vv])) (.bool _) ⟨rfl, rfl⟩
    ·
      refine wOps_skip rfl ?_
      refine wOps_skip rfl ?_
      refine wOps_skip rfl ?_
      refine wOps_skip rfl ?_
      refine wOps_skip rfl ?_
      refine wOps_skip rfl ?_
      refine wOps_skip rfl ?_
      refine wOps_op rfl (op_pick rfl rfl rfl ?_)
      refine wOps_op rfl (op_move rfl rfl ?_)
      refine wOps_skip rfl ?_
      refine wOps_skip rfl ?_
      refine wOps_skip rfl ?_
      refine wOps_skip rfl ?_
      refine wOps_skip rfl ?_
      refine wOps_skip rfl ?_
      refine wOps_skip rfl ?_
      refine wOps_op rfl (op_pick rfl rfl rfl ?_)
      refine wOps_op rfl (op_move rfl rfl ?_)
      refine wOps_skip rfl ?_
      refine wOps_skip rfl ?_
      refine wOps_skip rfl ?_
      refine wOps_skip rfl ?_
      refine wOps_skip rfl ?_
      refine wOps_skip rfl ?_
      refine wOps_skip rfl ?_
      refine wOps_op rfl (op_pick rfl rfl rfl ?_)
      refine wOps_op rfl (op_move rfl rfl ?_)
      refine wOps_skip rfl ?_
      refine wOps_skip rfl ?_
      refine wOps_skip rfl ?_
      refine wOps_skip rfl ?_
      refine wOps_skip rfl ?_
      refine wOps_skip rfl ?_
      refine wOps_skip rfl ?_
      refine wOps_op rfl (op_pick rfl rfl rfl ?_)
      refine wOps_op rfl (op_assign rfl rfl ?_)
      refine wOps_nil ?_
      refine mwp_ret ?_
      exact ret_tmp (.inr rfl) Try.results34 rfl (.of_eq (by congr 1; rw [Bool.eq_iff_iff]; simp_all [bareF, numsK, textsK, clocksK, valuesK, Val.nv, Val.mv, Val.sv, Val.cv, Val.vv])) (.bool _) ⟨rfl, rfl⟩
  ·
    refine mcalls_body Try.func34 rfl Try.ntmps34 (Nat.le_of_ble_eq_true rfl) ?_
    refine mwp_seq ?_
    refine mwp_region rfl ?_
    refine wOps_op rfl (op_box' rfl rfl rfl rfl ?_)
    refine wOps_op rfl (op_assign rfl rfl ?_)
    refine wOps_nil ?_
    refine mwp_seq ?_
    refine mwp_region rfl ?_
    refine wOps_op rfl (op_move rfl rfl ?_)
    refine wOps_op rfl (op_cmp rfl rfl rfl rfl ?_)
    refine wOps_op rfl (op_move rfl rfl ?_)
    refine wOps_op rfl (op_move rfl rfl ?_)
    refine wOps_op rfl (op_cmp rfl rfl rfl rfl ?_)
    refine wOps_op rfl (op_pick rfl rfl rfl ?_)
    refine wOps_op rfl (op_move rfl rfl ?_)
    refine wOps_op rfl (op_move rfl rfl ?_)
    refine wOps_op rfl (op_cmp rfl rfl rfl rfl ?_)
    refine wOps_op rfl (op_pick rfl rfl rfl ?_)
    refine wOps_op rfl (op_assign rfl rfl ?_)
    refine wOps_nil ?_
    refine mwp_seq ?_
    refine mwp_region rfl ?_
    refine wOps_op rfl (op_move rfl rfl ?_)
    refine wOps_op rfl (op_cmp rfl rfl rfl rfl ?_)
    refine wOps_op rfl (op_move rfl rfl ?_)
    refine wOps_op rfl (op_move rfl rfl ?_)
    refine wOps_op rfl (op_cmp rfl rfl rfl rfl ?_)
    refine wOps_op rfl (op_pick rfl rfl rfl ?_)
    refine wOps_op rfl (op_move rfl rfl ?_)
    refine wOps_op rfl (op_move rfl rfl ?_)
    refine wOps_op rfl (op_cmp rfl rfl rfl rfl ?_)
    refine wOps_op rfl (op_pick rfl rfl rfl ?_)
    refine wOps_op rfl (op_assign rfl rfl ?_)
    refine wOps_nil ?_
    refine mwp_seq ?_
    refine mwp_region rfl ?_
    refine wOps_op rfl (op_move rfl rfl ?_)
    refine wOps_op rfl (op_cmp rfl rfl rfl rfl ?_)
    refine wOps_op rfl (op_move rfl rfl ?_)
    refine wOps_op rfl (op_move rfl rfl ?_)
    refine wOps_op rfl (op_cmp rfl rfl rfl rfl ?_)
    refine wOps_op rfl (op_pick rfl rfl rfl ?_)
    refine wOps_op rfl (op_assign rfl rfl ?_)
    refine wOps_nil ?_
    refine mwp_seq ?_
    refine mwp_region rfl ?_
    refine wOps_op rfl (op_move rfl rfl ?_)
    refine wOps_op rfl (op_cmp rfl rfl rfl rfl ?_)
    refine wOps_op rfl (op_move rfl rfl ?_)
    refine wOps_op rfl (op_move rfl rfl ?_)
    refine wOps_op rfl (op_cmp rfl rfl rfl rfl ?_)
    refine wOps_op rfl (op_pick rfl rfl rfl ?_)
    refine wOps_op rfl (op_move rfl rfl ?_)
    refine wOps_skip rfl ?_
    refine wOps_skip rfl ?_
    refine wOps_op rfl (op_pick rfl rfl rfl ?_)
    refine wOps_op rfl (op_assign rfl rfl ?_)
    refine wOps_nil ?_
    refine mwp_seq ?_
    refine mwp_region rfl ?_
    refine wOps_op rfl (op_move rfl rfl ?_)
    refine wOps_op rfl (op_move rfl rfl ?_)
    refine wOps_op rfl (op_fieldAddr_ref rfl rfl fo30_0 ?_)
    refine wOps_op rfl (op_load' rfl rfl rfl ta25 rfl ?_)
    refine wOps_op rfl (op_cmp rfl rfl rfl rfl ?_)
    refine wOps_op rfl (op_pick rfl rfl rfl ?_)
    refine wOps_op rfl (op_move rfl rfl ?_)
    refine wOps_case (fun h51 => ?_) (fun h51 => ?_)
    ·
      refine wOps_op rfl (op_move rfl rfl ?_)
      refine wOps_op rfl (op_cmp rfl rfl rfl rfl ?_)
      refine wOps_op rfl (op_move rfl rfl ?_)
      refine wOps_op rfl (op_fieldAddr_ref rfl rfl fo30_1 ?_)
      refine wOps_op rfl (op_load' rfl rfl rfl ta25 rfl ?_)
      refine wOps_op rfl (op_cmp rfl rfl rfl rfl ?_)
      refine wOps_op rfl (op_pick rfl rfl rfl ?_)
      refine wOps_op rfl (op_pick rfl rfl rfl ?_)
      refine wOps_op rfl (op_move rfl rfl ?_)
      refine wOps_case (fun h60 => ?_) (fun h60 => ?_)
      ·
        refine wOps_op rfl (op_move rfl rfl ?_)
        refine wOps_op rfl (op_move rfl rfl ?_)
        refine wOps_op rfl (op_fieldAddr_ref rfl rfl fo30_2 ?_)
        refine wOps_op rfl (op_load' rfl rfl rfl ta26 rfl ?_)
        refine wOps_op rfl (op_len_lst rfl Try.underlying26 rfl ?_)
        refine wOps_op rfl (op_cmp rfl rfl rfl rfl ?_)
        refine wOps_op rfl (op_pick rfl rfl rfl ?_)
        refine wOps_op rfl (op_pick rfl rfl rfl ?_)
        refine wOps_op rfl (op_move rfl rfl ?_)
        refine wOps_case (fun h69 => ?_) (fun h69 => ?_)
        ·
          refine wOps_op rfl (op_move rfl rfl ?_)
          refine wOps_op rfl (op_move rfl rfl ?_)
          refine wOps_op rfl (op_fieldAddr_ref rfl rfl fo30_3 ?_)
          refine wOps_op rfl (op_load' rfl rfl rfl ta27 rfl ?_)
          refine wOps_op rfl (op_len_lst rfl Try.underlying27 rfl ?_)
          refine wOps_op rfl (op_cmp rfl rfl rfl rfl ?_)
          refine wOps_op rfl (op_pick rfl rfl rfl ?_)
          refine wOps_op rfl (op_pick rfl rfl rfl ?_)
          refine wOps_op rfl (op_move rfl rfl ?_)
          refine wOps_case (fun h78 => ?_) (fun h78 => ?_)
          ·
            refine wOps_op rfl (op_move rfl rfl ?_)
            refine wOps_op rfl (op_move rfl rfl ?_)
            refine wOps_skip rfl ?_
            refine wOps_skip rfl ?_
            refine wOps_skip rfl ?_
            refine wOps_skip rfl ?_
            refine wOps_op rfl (op_pick rfl rfl rfl ?_)
            refine wOps_op rfl (op_pick rfl rfl rfl ?_)
            refine wOps_op rfl (op_assign rfl rfl ?_)
            refine wOps_nil ?_
            refine mwp_ret ?_
            exact ret_tmp (.inr rfl) Try.results34 rfl (.of_eq (by congr 1; rw [Bool.eq_iff_iff]; simp_all [bareF, numsK, textsK, clocksK, valuesK, Val.nv, Val.mv, Val.sv, Val.cv, Val.vv])) (.bool _) ⟨rfl, rfl⟩
          ·
            refine wOps_skip rfl ?_
            refine wOps_skip rfl ?_
            refine wOps_skip rfl ?_
            refine wOps_skip rfl ?_
            refine wOps_skip rfl ?_
            refine wOps_skip rfl ?_
            refine wOps_skip rfl ?_
            refine wOps_op rfl (op_pick rfl rfl rfl ?_)
            refine wOps_op rfl (op_assign rfl rfl ?_)
            refine wOps_nil ?_
            refine mwp_ret ?_
            exact ret_tmp (.inr rfl) Try.results34 rfl (.of_eq (by congr 1; rw [Bool.eq_iff_iff]; simp_all [bareF, numsK, textsK, clocksK, valuesK, Val.nv, Val.mv, Val.sv, Val.cv, Val.vv])) (.bool _) ⟨rfl, rfl⟩
        ·
          refine wOps_skip rfl ?_
          refine wOps_skip rfl ?_
          refine wOps_skip rfl ?_
          refine wOps_skip rfl ?_
          refine wOps_skip rfl ?_
          refine wOps_skip rfl ?_
          refine wOps_skip rfl ?_
          refine wOps_op rfl (op_pick rfl rfl rfl ?_)
          refine wOps_op rfl (op_move rfl rfl ?_)
          refine wOps_skip rfl ?_
          refine wOps_skip rfl ?_
          refine wOps_skip rfl ?_
          refine wOps_skip rfl ?_
          refine wOps_skip rfl ?_
          refine wOps_skip rfl ?_
          refine wOps_skip rfl ?_
          refine wOps_op rfl (op_pick rfl rfl rfl ?_)
          refine wOps_op rfl (op_assign rfl rfl ?_)
          refine wOps_nil ?_
          refine mwp_ret ?_
          exact ret_tmp (.inr rfl) Try.results34 rfl (.of_eq (by congr 1; rw [Bool.eq_iff_iff]; simp_all [bareF, numsK, textsK, clocksK, valuesK, Val.nv, Val.mv, Val.sv, Val.cv, Val.vv])) (.bool _) ⟨rfl, rfl⟩
      ·
        refine wOps_skip rfl ?_
        refine wOps_skip rfl ?_
        refine wOps_skip rfl ?_
        refine wOps_skip rfl ?_
        refine wOps_skip rfl ?_
        refine wOps_skip rfl ?_
        refine wOps_skip rfl ?_
        refine wOps_op rfl (op_pick rfl rfl rfl ?_)
        refine wOps_op rfl (op_move rfl rfl ?_)
        refine wOps_skip rfl ?_
        refine wOps_skip rfl ?_
        refine wOps_skip rfl ?_
        refine wOps_skip rfl ?_
        refine wOps_skip rfl ?_
        refine wOps_skip rfl ?_
        refine wOps_skip rfl ?_
        refine wOps_op rfl (op_pick rfl rfl rfl ?_)
        refine wOps_op rfl (op_move rfl rfl ?_)
        refine wOps_skip rfl ?_
        refine wOps_skip rfl ?_
        refine wOps_skip rfl ?_
        refine wOps_skip rfl ?_
        refine wOps_skip rfl ?_
        refine wOps_skip rfl ?_
        refine wOps_skip rfl ?_
        refine wOps_op rfl (op_pick rfl rfl rfl ?_)
        refine wOps_op rfl (op_assign rfl rfl ?_)
        refine wOps_nil ?_
        refine mwp_ret ?_
        exact ret_tmp (.inr rfl) Try.results34 rfl (.of_eq (by congr 1; rw [Bool.eq_iff_iff]; simp_all [bareF, numsK, textsK, clocksK, valuesK, Val.nv, Val.mv, Val.sv, Val.cv, Val.vv])) (.bool _) ⟨rfl, rfl⟩
    ·
      refine wOps_skip rfl ?_
      refine wOps_skip rfl ?_
      refine wOps_skip rfl ?_
      refine wOps_skip rfl ?_
      refine wOps_skip rfl ?_
      refine wOps_skip rfl ?_
      refine wOps_skip rfl ?_
      refine wOps_op rfl (op_pick rfl rfl rfl ?_)
      refine wOps_op rfl (op_move rfl rfl ?_)
      refine wOps_skip rfl ?_
      refine wOps_skip rfl ?_
      refine wOps_skip rfl ?_
      refine wOps_skip rfl ?_
      refine wOps_skip rfl ?_
      refine wOps_skip rfl ?_
      refine wOps_skip rfl ?_
      refine wOps_op rfl (op_pick rfl rfl rfl ?_)
      refine wOps_op rfl (op_move rfl rfl ?_)
      refine wOps_skip rfl ?_
      refine wOps_skip rfl ?_
      refine wOps_skip rfl ?_
      refine wOps_skip rfl ?_
      refine wOps_skip rfl ?_
      refine wOps_skip rfl ?_
      refine wOps_skip rfl ?_
      refine wOps_op rfl (op_pick rfl rfl rfl ?_)
      refine wOps_op rfl (op_move rfl rfl ?_)
      refine wOps_skip rfl ?_
      refine wOps_skip rfl ?_
      refine wOps_skip rfl ?_
      refine wOps_skip rfl ?_
      refine wOps_skip rfl ?_
      refine wOps_skip rfl ?_
      refine wOps_skip rfl ?_
      refine wOps_op rfl (op_pick rfl rfl rfl ?_)
      refine wOps_op rfl (op_assign rfl rfl ?_)
      refine wOps_nil ?_
      refine mwp_ret ?_
      exact ret_tmp (.inr rfl) Try.results34 rfl (.of_eq (by congr 1; rw [Bool.eq_iff_iff]; simp_all [bareF, numsK, textsK, clocksK, valuesK, Val.nv, Val.mv, Val.sv, Val.cv, Val.vv])) (.bool _) ⟨rfl, rfl⟩
  ·
    refine mcalls_body Try.func34 rfl Try.ntmps34 (Nat.le_of_ble_eq_true rfl) ?_
    refine mwp_seq ?_
    refine mwp_region rfl ?_
    refine wOps_op rfl (op_box' rfl rfl rfl rfl ?_)
    refine wOps_op rfl (op_assign rfl rfl ?_)
    refine wOps_nil ?_
    refine mwp_seq ?_
    refine mwp_region rfl ?_
    refine wOps_op rfl (op_move rfl rfl ?_)
    refine wOps_op rfl (op_cmp rfl rfl rfl rfl ?_)
    refine wOps_op rfl (op_move rfl rfl ?_)
    refine wOps_op rfl (op_move rfl rfl ?_)
    refine wOps_op rfl (op_cmp rfl rfl rfl rfl ?_)
    refine wOps_op rfl (op_pick rfl rfl rfl ?_)
    refine wOps_op rfl (op_move rfl rfl ?_)
    refine wOps_op rfl (op_move rfl rfl ?_)
    refine wOps_op rfl (op_cmp rfl rfl rfl rfl ?_)
    refine wOps_op rfl (op_pick rfl rfl rfl ?_)
    refine wOps_op rfl (op_assign rfl rfl ?_)
    refine wOps_nil ?_
    refine mwp_seq ?_
    refine mwp_region rfl ?_
    refine wOps_op rfl (op_move rfl rfl ?_)
    refine wOps_op rfl (op_cmp rfl rfl rfl rfl ?_)
    refine wOps_op rfl (op_move rfl rfl ?_)
    refine wOps_op rfl (op_move rfl rfl ?_)
    refine wOps_op rfl (op_cmp rfl rfl rfl rfl ?_)
    refine wOps_op rfl (op_pick rfl rfl rfl ?_)
    refine wOps_op rfl (op_move rfl rfl ?_)
    refine wOps_op rfl (op_move rfl rfl ?_)
    refine wOps_op rfl (op_cmp rfl rfl rfl rfl ?_)
    refine wOps_op rfl (op_pick rfl rfl rfl ?_)
    refine wOps_op rfl (op_assign rfl rfl ?_)
    refine wOps_nil ?_
    refine mwp_seq ?_
    refine mwp_region rfl ?_
    refine wOps_op rfl (op_move rfl rfl ?_)
    refine wOps_op rfl (op_cmp rfl rfl rfl rfl ?_)
    refine wOps_op rfl (op_move rfl rfl ?_)
    refine wOps_op rfl (op_move rfl rfl ?_)
    refine wOps_op rfl (op_cmp rfl rfl rfl rfl ?_)
    refine wOps_op rfl (op_pick rfl rfl rfl ?_)
    refine wOps_op rfl (op_assign rfl rfl ?_)
    refine wOps_nil ?_
    refine mwp_seq ?_
    refine mwp_region rfl ?_
    refine wOps_op rfl (op_move rfl rfl ?_)
    refine wOps_op rfl (op_cmp rfl rfl rfl rfl ?_)
    refine wOps_op rfl (op_move rfl rfl ?_)
    refine wOps_op rfl (op_move rfl rfl ?_)
    refine wOps_op rfl (op_cmp rfl rfl rfl rfl ?_)
    refine wOps_op rfl (op_pick rfl rfl rfl ?_)
    refine wOps_op rfl (op_move rfl rfl ?_)
    refine wOps_op rfl (op_move rfl rfl ?_)
    refine wOps_op rfl (op_cmp rfl rfl rfl rfl ?_)
    refine wOps_op rfl (op_pick rfl rfl rfl ?_)
    refine wOps_op rfl (op_assign rfl rfl ?_)
    refine wOps_nil ?_
    refine mwp_seq ?_
    refine mwp_region rfl ?_
    refine wOps_op rfl (op_move rfl rfl ?_)
    refine wOps_op rfl (op_move rfl rfl ?_)
    refine wOps_skip rfl ?_
    refine wOps_skip rfl ?_
    refine wOps_skip rfl ?_
    refine wOps_op rfl (op_pick rfl rfl rfl ?_)
    refine wOps_op rfl (op_move rfl rfl ?_)
    refine wOps_op rfl (op_move rfl rfl ?_)
    refine wOps_op rfl (op_cmp rfl rfl rfl rfl ?_)
    refine wOps_op rfl (op_move rfl rfl ?_)
    refine wOps_skip rfl ?_
    refine wOps_skip rfl ?_
    refine wOps_skip rfl ?_
    refine wOps_op rfl (op_pick rfl rfl rfl ?_)
    refine wOps_op rfl (op_pick rfl rfl rfl ?_)
    refine wOps_op rfl (op_move rfl rfl ?_)
    refine wOps_op rfl (op_move rfl rfl ?_)
    refine wOps_op rfl (op_move rfl rfl ?_)
    refine wOps_skip rfl ?_
    refine wOps_skip rfl ?_
    refine wOps_skip rfl ?_
    refine wOps_skip rfl ?_
    refine wOps_op rfl (op_pick rfl rfl rfl ?_)
    refine wOps_op rfl (op_pick rfl rfl rfl ?_)
    refine wOps_op rfl (op_move rfl rfl ?_)
    refine wOps_op rfl (op_move rfl rfl ?_)
    refine wOps_op rfl (op_move rfl rfl ?_)
    refine wOps_op rfl (op_fieldAddr_ref rfl rfl fo30_3 ?_)
    refine wOps_op rfl (op_load' rfl rfl rfl ta27 rfl ?_)
    refine wOps_op rfl (op_len_lst rfl Try.underlying27 rfl ?_)
    refine wOps_op rfl (op_cmp rfl rfl rfl rfl ?_)
    refine wOps_op rfl (op_pick rfl rfl rfl ?_)
    refine wOps_op rfl (op_pick rfl rfl rfl ?_)
    refine wOps_op rfl (op_move rfl rfl ?_)
    refine wOps_case (fun h78 => ?_) (fun h78 => ?_)
    ·
      refine wOps_op rfl (op_move rfl rfl ?_)
      refine wOps_op rfl (op_move rfl rfl ?_)
      refine wOps_op rfl (op_fieldAddr_ref rfl rfl fo30_4 ?_)
      refine wOps_op rfl (op_load' rfl rfl rfl ta28 rfl ?_)
      refine wOps_op rfl (op_len_lst rfl Try.underlying28 rfl ?_)
      try rw [encVs_length]
      refine wOps_op rfl (op_cmp rfl rfl rfl rfl ?_)
      refine wOps_op rfl (op_pick rfl rfl rfl ?_)
      refine wOps_op rfl (op_pick rfl rfl rfl ?_)
      refine wOps_op rfl (op_assign rfl rfl ?_)
      refine wOps_nil ?_
      refine mwp_ret ?_
      exact ret_tmp (.inr rfl) Try.results34 rfl (.of_eq (by congr 1; rw [Bool.eq_iff_iff]; simp_all [bareF, numsK, textsK, clocksK, valuesK, Val.nv, Val.mv, Val.sv, Val.cv, Val.vv])) (.bool _) ⟨rfl, rfl⟩
    ·
      refine wOps_skip rfl ?_
      refine wOps_skip rfl ?_
      refine wOps_skip rfl ?_
      refine wOps_skip rfl ?_
      refine wOps_skip rfl ?_
      refine wOps_skip rfl ?_
      refine wOps_skip rfl ?_
      refine wOps_op rfl (op_pick rfl rfl rfl ?_)
      refine wOps_op rfl (op_assign rfl rfl ?_)
      refine wOps_nil ?_
      refine mwp_ret ?_
      exact ret_tmp (.inr rfl) Try.results34 rfl (.of_eq (by congr 1; rw [Bool.eq_iff_iff]; simp_all [bareF, numsK, textsK, clocksK, valuesK, Val.nv, Val.mv, Val.sv, Val.cv, Val.vv])) (.bool _) ⟨rfl, rfl⟩
  ·
    refine mcalls_body Try.func34 rfl Try.ntmps34 (Nat.le_of_ble_eq_true rfl) ?_
    refine mwp_seq ?_
    refine mwp_region rfl ?_
    refine wOps_op rfl (op_box' rfl rfl rfl rfl ?_)
    refine wOps_op rfl (op_assign rfl rfl ?_)
    refine wOps_nil ?_
    refine mwp_seq ?_
    refine mwp_region rfl ?_
    refine wOps_op rfl (op_move rfl rfl ?_)
    refine wOps_op rfl (op_cmp rfl rfl rfl rfl ?_)
    refine wOps_op rfl (op_move rfl rfl ?_)
    refine wOps_op rfl (op_move rfl rfl ?_)
    refine wOps_op rfl (op_cmp rfl rfl rfl rfl ?_)
    refine wOps_op rfl (op_pick rfl rfl rfl ?_)
    refine wOps_op rfl (op_move rfl rfl ?_)
    refine wOps_op rfl (op_move rfl rfl ?_)
    refine wOps_op rfl (op_cmp rfl rfl rfl rfl ?_)
    refine wOps_op rfl (op_pick rfl rfl rfl ?_)
    refine wOps_op rfl (op_assign rfl rfl ?_)
    refine wOps_nil ?_
    refine mwp_seq ?_
    refine mwp_region rfl ?_
    refine wOps_op rfl (op_move rfl rfl ?_)
    refine wOps_op rfl (op_cmp rfl rfl rfl rfl ?_)
    refine wOps_op rfl (op_move rfl rfl ?_)
    refine wOps_op rfl (op_move rfl rfl ?_)
    refine wOps_op rfl (op_cmp rfl rfl rfl rfl ?_)
    refine wOps_op rfl (op_pick rfl rfl rfl ?_)
    refine wOps_op rfl (op_move rfl rfl ?_)
    refine wOps_op rfl (op_move rfl rfl ?_)
    refine wOps_op rfl (op_cmp rfl rfl rfl rfl ?_)
    refine wOps_op rfl (op_pick rfl rfl rfl ?_)
    refine wOps_op rfl (op_assign rfl rfl ?_)
    refine wOps_nil ?_
    refine mwp_seq ?_
    refine mwp_region rfl ?_
    refine wOps_op rfl (op_move rfl rfl ?_)
    refine wOps_op rfl (op_cmp rfl rfl rfl rfl ?_)
    refine wOps_op rfl (op_move rfl rfl ?_)
    refine wOps_skip rfl ?_
    refine wOps_skip rfl ?_
    refine wOps_op rfl (op_pick rfl rfl rfl ?_)
    refine wOps_op rfl (op_assign rfl rfl ?_)
    refine wOps_nil ?_
    refine mwp_seq ?_
    refine mwp_region rfl ?_
    refine wOps_op rfl (op_move rfl rfl ?_)
    refine wOps_op rfl (op_cmp rfl rfl rfl rfl ?_)
    refine wOps_op rfl (op_move rfl rfl ?_)
    refine wOps_op rfl (op_move rfl rfl ?_)
    refine wOps_op rfl (op_cmp rfl rfl rfl rfl ?_)
    refine wOps_op rfl (op_pick rfl rfl rfl ?_)
    refine wOps_op rfl (op_move rfl rfl ?_)
    refine wOps_op rfl (op_move rfl rfl ?_)
    refine wOps_op rfl (op_cmp rfl rfl rfl rfl ?_)
    refine wOps_op rfl (op_pick rfl rfl rfl ?_)
    refine wOps_op rfl (op_assign rfl rfl ?_)
    refine wOps_nil ?_
    refine mwp_seq ?_
    refine mwp_region rfl ?_
    refine wOps_op rfl (op_move rfl rfl ?_)
    refine wOps_op rfl (op_move rfl rfl ?_)
    refine wOps_op rfl (op_fieldAddr_ref rfl rfl fo30_0 ?_)
    refine wOps_op rfl (op_load' rfl rfl rfl ta25 rfl ?_)
    refine wOps_op rfl (op_cmp rfl rfl rfl rfl ?_)
    refine wOps_op rfl (op_pick rfl rfl rfl ?_)
    refine wOps_op rfl (op_move rfl rfl ?_)
    refine wOps_case (fun h51 => ?_) (fun h51 => ?_)
    ·
      refine wOps_op rfl (op_move rfl rfl ?_)
      refine wOps_op rfl (op_cmp rfl rfl rfl rfl ?_)
      refine wOps_op rfl (op_move rfl rfl ?_)
      refine wOps_op rfl (op_fieldAddr_ref rfl rfl fo30_1 ?_)
      refine wOps_op rfl (op_load' rfl rfl rfl ta25 rfl ?_)
      refine wOps_op rfl (op_cmp rfl rfl rfl rfl ?_)
      refine wOps_op rfl (op_pick rfl rfl rfl ?_)
      refine wOps_op rfl (op_pick rfl rfl rfl ?_)
      refine wOps_op rfl (op_move rfl rfl ?_)
      refine wOps_case (fun h60 => ?_) (fun h60 => ?_)
      ·
        refine wOps_op rfl (op_move rfl rfl ?_)
        refine wOps_op rfl (op_move rfl rfl ?_)
        refine wOps_op rfl (op_fieldAddr_ref rfl rfl fo30_2 ?_)
        refine wOps_op rfl (op_load' rfl rfl rfl ta26 rfl ?_)
        refine wOps_op rfl (op_len_lst rfl Try.underlying26 rfl ?_)
        refine wOps_op rfl (op_cmp rfl rfl rfl rfl ?_)
        refine wOps_op rfl (op_pick rfl rfl rfl ?_)
        refine wOps_op rfl (op_pick rfl rfl rfl ?_)
        refine wOps_op rfl (op_move rfl rfl ?_)
        refine wOps_case (fun h69 => ?_) (fun h69 => ?_)
        ·
          refine wOps_op rfl (op_move rfl rfl ?_)
          refine wOps_op rfl (op_move rfl rfl ?_)
          refine wOps_skip rfl ?_
          refine wOps_skip rfl ?_
          refine wOps_skip rfl ?_
          refine wOps_skip rfl ?_
          refine wOps_op rfl (op_pick rfl rfl rfl ?_)
          refine wOps_op rfl (op_pick rfl rfl rfl ?_)
          refine wOps_op rfl (op_move rfl rfl ?_)
          refine wOps_op rfl (op_move rfl rfl ?_)
          refine wOps_op rfl (op_move rfl rfl ?_)
          refine wOps_op rfl (op_fieldAddr_ref rfl rfl fo30_4 ?_)
          refine wOps_op rfl (op_load' rfl rfl rfl ta28 rfl ?_)
          refine wOps_op rfl (op_len_lst rfl Try.underlying28 rfl ?_)
          try rw [encVs_length]
          refine wOps_op rfl (op_cmp rfl rfl rfl rfl ?_)
          refine wOps_op rfl (op_pick rfl rfl rfl ?_)
          refine wOps_op rfl (op_pick rfl rfl rfl ?_)
          refine wOps_op rfl (op_assign rfl rfl ?_)
          refine wOps_nil ?_
          refine mwp_ret ?_
          exact ret_tmp (.inr rfl) Try.results34 rfl (.of_eq (by congr 1; rw [Bool.eq_iff_iff]; simp_all [bareF, numsK, textsK, clocksK, valuesK, Val.nv, Val.mv, Val.sv, Val.cv, Val.vv])) (.bool _) ⟨rfl, rfl⟩
        ·
          refine wOps_skip rfl ?_
          refine wOps_skip rfl ?_
          refine wOps_skip rfl ?_
          refine wOps_skip rfl ?_
          refine wOps_skip rfl ?_
          refine wOps_skip rfl ?_
          refine wOps_skip rfl ?_
          refine wOps_op rfl (op_pick rfl rfl rfl ?_)
          refine wOps_op rfl (op_move rfl rfl ?_)
          refine wOps_skip rfl ?_
          refine wOps_skip rfl ?_
          refine wOps_skip rfl ?_
          refine wOps_skip rfl ?_
          refine wOps_skip rfl ?_
          refine wOps_skip rfl ?_
          refine wOps_skip rfl ?_
          refine wOps_op rfl (op_pick rfl rfl rfl ?_)
          refine wOps_op rfl (op_assign rfl rfl ?_)
          refine wOps_nil ?_
          refine mwp_ret ?_
          exact ret_tmp (.inr rfl) Try.results34 rfl (.of_eq (by congr 1; rw [Bool.eq_iff_iff]; simp_all [bareF, numsK, textsK, clocksK, valuesK, Val.nv, Val.mv, Val.sv, Val.cv, Val.vv])) (.bool _) ⟨rfl, rfl⟩
      ·
        refine wOps_skip rfl ?_
        refine wOps_skip rfl ?_
        refine wOps_skip rfl ?_
        refine wOps_skip rfl ?_
        refine wOps_skip rfl ?_
        refine wOps_skip rfl ?_
        refine wOps_skip rfl ?_
        refine wOps_op rfl (op_pick rfl rfl rfl ?_)
        refine wOps_op rfl (op_move rfl rfl ?_)
        refine wOps_skip rfl ?_
        refine wOps_skip rfl ?_
        refine wOps_skip rfl ?_
        refine wOps_skip rfl ?_
        refine wOps_skip rfl ?_
        refine wOps_skip rfl ?_
        refine wOps_skip rfl ?_
        refine wOps_op rfl (op_pick rfl rfl rfl ?_)
        refine wOps_op rfl (op_move rfl rfl ?_)
        refine wOps_skip rfl ?_
        refine wOps_skip rfl ?_
        refine wOps_skip rfl ?_
        refine wOps_skip rfl ?_
        refine wOps_skip rfl ?_
        refine wOps_skip rfl ?_
        refine wOps_skip rfl ?_
        refine wOps_op rfl (op_pick rfl rfl rfl ?_)
        refine wOps_op rfl (op_assign rfl rfl ?_)
        refine wOps_nil ?_
        refine mwp_ret ?_
        exact ret_tmp (.inr rfl) Try.results34 rfl (.of_eq (by congr 1; rw [Bool.eq_iff_iff]; simp_all [bareF, numsK, textsK, clocksK, valuesK, Val.nv, Val.mv, Val.sv, Val.cv, Val.vv])) (.bool _) ⟨rfl, rfl⟩
    ·
      refine wOps_skip rfl ?_
      refine wOps_skip rfl ?_
      refine wOps_skip rfl ?_
      refine wOps_skip rfl ?_
      refine wOps_skip rfl ?_
      refine wOps_skip rfl ?_
      refine wOps_skip rfl ?_
      refine wOps_op rfl (op_pick rfl rfl rfl ?_)
      refine wOps_op rfl (op_move rfl rfl ?_)
      refine wOps_skip rfl ?_
      refine wOps_skip rfl ?_
      refine wOps_skip rfl ?_
      refine wOps_skip rfl ?_
      refine wOps_skip rfl ?_
      refine wOps_skip rfl ?_
      refine wOps_skip rfl ?_
      refine wOps_op rfl (op_pick rfl rfl rfl ?_)
      refine wOps_op rfl (op_move rfl rfl ?_)
      refine wOps_skip rfl ?_
      refine wOps_skip rfl ?_
      refine wOps_skip rfl ?_
      refine wOps_skip rfl ?_
      refine wOps_skip rfl ?_
      refine wOps_skip rfl ?_
      refine wOps_skip rfl ?_
      refine wOps_op rfl (op_pick rfl rfl rfl ?_)
      refine wOps_op rfl (op_move rfl rfl ?_)
      refine wOps_skip rfl ?_
      refine wOps_skip rfl ?_
      refine wOps_skip rfl ?_
      refine wOps_skip rfl ?_
      refine wOps_skip rfl ?_
      refine wOps_skip rfl ?_
      refine wOps_skip rfl ?_
      refine wOps_op rfl (op_pick rfl rfl rfl ?_)
      refine wOps_op rfl (op_assign rfl rfl ?_)
      refine wOps_nil ?_
      refine mwp_ret ?_
      exact ret_tmp (.inr rfl) Try.results34 rfl (.of_eq (by congr 1; rw [Bool.eq_iff_iff]; simp_all [bareF, numsK, textsK, clocksK, valuesK, Val.nv, Val.mv, Val.sv, Val.cv, Val.vv])) (.bool _) ⟨rfl, rfl⟩
  ·
    refine mcalls_body Try.func34 rfl Try.ntmps34 (Nat.le_of_ble_eq_true rfl) ?_
    refine mwp_seq ?_
    refine mwp_region rfl ?_
    refine wOps_op rfl (op_box' rfl rfl rfl rfl ?_)
    refine wOps_op rfl (op_assign rfl rfl ?_)
    refine wOps_nil ?_
    refine mwp_seq ?_
    refine mwp_region rfl ?_
    refine wOps_op rfl (op_move rfl rfl ?_)
    refine wOps_op rfl (op_cmp rfl rfl rfl rfl ?_)
    refine wOps_op rfl (op_move rfl rfl ?_)
    refine wOps_op rfl (op_move rfl rfl ?_)
    refine wOps_op rfl (op_cmp rfl rfl rfl rfl ?_)
    refine wOps_op rfl (op_pick rfl rfl rfl ?_)
    refine wOps_op rfl (op_move rfl rfl ?_)
    refine wOps_op rfl (op_move rfl rfl ?_)
    refine wOps_op rfl (op_cmp rfl rfl rfl rfl ?_)
    refine wOps_op rfl (op_pick rfl rfl rfl ?_)
    refine wOps_op rfl (op_assign rfl rfl ?_)
    refine wOps_nil ?_
    refine mwp_seq ?_
    refine mwp_region rfl ?_
    refine wOps_op rfl (op_move rfl rfl ?_)
    refine wOps_op rfl (op_cmp rfl rfl rfl rfl ?_)
    refine wOps_op rfl (op_move rfl rfl ?_)
    refine wOps_op rfl (op_move rfl rfl ?_)
    refine wOps_op rfl (op_cmp rfl rfl rfl rfl ?_)
    refine wOps_op rfl (op_pick rfl rfl rfl ?_)
    refine wOps_op rfl (op_move rfl rfl ?_)
    refine wOps_op rfl (op_move rfl rfl ?_)
    refine wOps_op rfl (op_cmp rfl rfl rfl rfl ?_)
    refine wOps_op rfl (op_pick rfl rfl rfl ?_)
    refine wOps_op rfl (op_assign rfl rfl ?_)
    refine wOps_nil ?_
    refine mwp_seq ?_
    refine mwp_region rfl ?_
    refine wOps_op rfl (op_move rfl rfl ?_)
    refine wOps_op rfl (op_cmp rfl rfl rfl rfl ?_)
    refine wOps_op rfl (op_move rfl rfl ?_)
    refine wOps_op rfl (op_move rfl rfl ?_)
    refine wOps_op rfl (op_cmp rfl rfl rfl rfl ?_)
    refine wOps_op rfl (op_pick rfl rfl rfl ?_)
    refine wOps_op rfl (op_assign rfl rfl ?_)
    refine wOps_nil ?_
    refine mwp_seq ?_
    refine mwp_region rfl ?_
    refine wOps_op rfl (op_move rfl rfl ?_)
    refine wOps_op rfl (op_cmp rfl rfl rfl rfl ?_)
    refine wOps_op rfl (op_move rfl rfl ?_)
    refine wOps_op rfl (op_move rfl rfl ?_)
    refine wOps_op rfl (op_cmp rfl rfl rfl rfl ?_)
    refine wOps_op rfl (op_pick rfl rfl rfl ?_)
    refine wOps_op rfl (op_move rfl rfl ?_)
    refine wOps_op rfl (op_move rfl rfl ?_)
    refine wOps_op rfl (op_cmp rfl rfl rfl rfl ?_)
    refine wOps_op rfl (op_pick rfl rfl rfl ?_)
    refine wOps_op rfl (op_assign rfl rfl ?_)
    refine wOps_nil ?_
    refine mwp_seq ?_
    refine mwp_region rfl ?_
    refine wOps_op rfl (op_move rfl rfl ?_)
    refine wOps_op rfl (op_move rfl rfl ?_)
    refine wOps_op rfl (op_fieldAddr_ref rfl rfl fo30_0 ?_)
    refine wOps_op rfl (op_load' rfl rfl rfl ta25 rfl ?_)
    refine wOps_op rfl (op_cmp rfl rfl rfl rfl ?_)
    refine wOps_op rfl (op_pick rfl rfl rfl ?_)
    refine wOps_op rfl (op_move rfl rfl ?_)
    refine wOps_case (fun h51 => ?_) (fun h51 => ?_)
    ·
      refine wOps_op rfl (op_move rfl rfl ?_)
      refine wOps_op rfl (op_cmp rfl rfl rfl rfl ?_)
      refine wOps_op rfl (op_move rfl rfl ?_)
      refine wOps_op rfl (op_fieldAddr_ref rfl rfl fo30_1 ?_)
      refine wOps_op rfl (op_load' rfl rfl rfl ta25 rfl ?_)
      refine wOps_op rfl (op_cmp rfl rfl rfl rfl ?_)
      refine wOps_op rfl (op_pick rfl rfl rfl ?_)
      refine wOps_op rfl (op_pick rfl rfl rfl ?_)
      refine wOps_op rfl (op_move rfl rfl ?_)
      refine wOps_case (fun h60 => ?_) (fun h60 => ?_)
      ·
        refine wOps_op rfl (op_move rfl rfl ?_)
        refine wOps_op rfl (op_move rfl rfl ?_)
        refine wOps_op rfl (op_fieldAddr_ref rfl rfl fo30_2 ?_)
        refine wOps_op rfl (op_load' rfl rfl rfl ta26 rfl ?_)
        refine wOps_op rfl (op_len_lst rfl Try.underlying26 rfl ?_)
        refine wOps_op rfl (op_cmp rfl rfl rfl rfl ?_)
        refine wOps_op rfl (op_pick rfl rfl rfl ?_)
        refine wOps_op rfl (op_pick rfl rfl rfl ?_)
        refine wOps_op rfl (op_move rfl rfl ?_)
        refine wOps_case (fun h69 => ?_) (fun h69 => ?_)
        ·
          refine wOps_op rfl (op_move rfl rfl ?_)
          refine wOps_op rfl (op_move rfl rfl ?_)
          refine wOps_skip rfl ?_
          refine wOps_skip rfl ?_
          refine wOps_skip rfl ?_
          refine wOps_skip rfl ?_
          refine wOps_op rfl (op_pick rfl rfl rfl ?_)
          refine wOps_op rfl (op_pick rfl rfl rfl ?_)
          refine wOps_op rfl (op_move rfl rfl ?_)
          refine wOps_op rfl (op_move rfl rfl ?_)
          refine wOps_op rfl (op_move rfl rfl ?_)
          refine wOps_skip rfl ?_
          refine wOps_skip rfl ?_
          refine wOps_skip rfl ?_
          refine wOps_skip rfl ?_
          refine wOps_op rfl (op_pick rfl rfl rfl ?_)
          refine wOps_op rfl (op_pick rfl rfl rfl ?_)
          refine wOps_op rfl (op_assign rfl rfl ?_)
          refine wOps_nil ?_
          refine mwp_ret ?_
          exact ret_tmp (.inr rfl) Try.results34 rfl (.of_eq (by congr 1; rw [Bool.eq_iff_iff]; simp_all [bareF, numsK, textsK, clocksK, valuesK, Val.nv, Val.mv, Val.sv, Val.cv, Val.vv])) (.bool _) ⟨rfl, rfl⟩
        ·
          refine wOps_skip rfl ?_
          refine wOps_skip rfl ?_
          refine wOps_skip rfl ?_
          refine wOps_skip rfl ?_
          refine wOps_skip rfl ?_
          refine wOps_skip rfl ?_
          refine wOps_skip rfl ?_
          refine wOps_op rfl (op_pick rfl rfl rfl ?_)
          refine wOps_op rfl (op_move rfl rfl ?_)
          refine wOps_skip rfl ?_
          refine wOps_skip rfl ?_
          refine wOps_skip rfl ?_
          refine wOps_skip rfl ?_
          refine wOps_skip rfl ?_
          refine wOps_skip rfl ?_
          refine wOps_skip rfl ?_
          refine wOps_op rfl (op_pick rfl rfl rfl ?_)
          refine wOps_op rfl (op_assign rfl rfl ?_)
          refine wOps_nil ?_
          refine mwp_ret ?_
          exact ret_tmp (.inr rfl) Try.results34 rfl (.of_eq (by congr 1; rw [Bool.eq_iff_iff]; simp_all [bareF, numsK, textsK, clocksK, valuesK, Val.nv, Val.mv, Val.sv, Val.cv, Val.vv])) (.bool _) ⟨rfl, rfl⟩
      ·
        refine wOps_skip rfl ?_
        refine wOps_skip rfl ?_
        refine wOps_skip rfl ?_
        refine wOps_skip rfl ?_
        refine wOps_skip rfl ?_
        refine wOps_skip rfl ?_
        refine wOps_skip rfl ?_
        refine wOps_op rfl (op_pick rfl rfl rfl ?_)
        refine wOps_op rfl (op_move rfl rfl ?_)
        refine wOps_skip rfl ?_
        refine wOps_skip rfl ?_
        refine wOps_skip rfl ?_
        refine wOps_skip rfl ?_
        refine wOps_skip rfl ?_
        refine wOps_skip rfl ?_
        refine wOps_skip rfl ?_
        refine wOps_op rfl (op_pick rfl rfl rfl ?_)
        refine wOps_op rfl (op_move rfl rfl ?_)
        refine wOps_skip rfl ?_
        refine wOps_skip rfl ?_
        refine wOps_skip rfl ?_
        refine wOps_skip rfl ?_
        refine wOps_skip rfl ?_
        refine wOps_skip rfl ?_
        refine wOps_skip rfl ?_
        refine wOps_op rfl (op_pick rfl rfl rfl ?_)
        refine wOps_op rfl (op_assign rfl rfl ?_)
        refine wOps_nil ?_
        refine mwp_ret ?_
        exact ret_tmp (.inr rfl) Try.results34 rfl (.of_eq (by congr 1; rw [Bool.eq_iff_iff]; simp_all [bareF, numsK, textsK, clocksK, valuesK, Val.nv, Val.mv, Val.sv, Val.cv, Val.vv])) (.bool _) ⟨rfl, rfl⟩
    ·
      refine wOps_skip rfl ?_
      refine wOps_skip rfl ?_
      refine wOps_skip rfl ?_
      refine wOps_skip rfl ?_
      refine wOps_skip rfl ?_
      refine wOps_skip rfl ?_
      refine wOps_skip rfl ?_
      refine wOps_op rfl (op_pick rfl rfl rfl ?_)
      refine wOps_op rfl (op_move rfl rfl ?_)
      refine wOps_skip rfl ?_
      refine wOps_skip rfl ?_
      refine wOps_skip rfl ?_
      refine wOps_skip rfl ?_
      refine wOps_skip rfl ?_
      refine wOps_skip rfl ?_
      refine wOps_skip rfl ?_
      refine wOps_op rfl (op_pick rfl rfl rfl ?_)
      refine wOps_op rfl (op_move rfl rfl ?_)
      refine wOps_skip rfl ?_
      refine wOps_skip rfl ?_
      refine wOps_skip rfl ?_
      refine wOps_skip rfl ?_
      refine wOps_skip rfl ?_
      refine wOps_skip rfl ?_
      refine wOps_skip rfl ?_
      refine wOps_op rfl (op_pick rfl rfl rfl ?_)
      refine wOps_op rfl (op_move rfl rfl ?_)
      refine wOps_skip rfl ?_
      refine wOps_skip rfl ?_
      refine wOps_skip rfl ?_
      refine wOps_skip rfl ?_
      refine wOps_skip rfl ?_
      refine wOps_skip rfl ?_
      refine wOps_skip rfl ?_
      refine wOps_op rfl (op_pick rfl rfl rfl ?_)
      refine wOps_op rfl (op_assign rfl rfl ?_)
      refine wOps_nil ?_
      refine mwp_ret ?_
      exact ret_tmp (.inr rfl) Try.results34 rfl (.of_eq (by congr 1; rw [Bool.eq_iff_iff]; simp_all [bareF, numsK, textsK, clocksK, valuesK, Val.nv, Val.mv, Val.sv, Val.cv, Val.vv])) (.bool _) ⟨rfl, rfl⟩

theorem is1v_spec (k k1 : Int) (i1 rest : List Sch) (f : Val → Bool) (ih : ∀ x, okV x → ∀ S : MS, MCalls Try.prog 22 [encS (.mk k1 i1), encV x] S fun v σ' => v = .bool (f x) ∧ σ' = S) (x : Val) (hx : okV x) (id : Nat) (S : MS) (hS : S[id]? = some (.cells [.int .i64 k, .lst none 2 (encSs (.mk k1 i1 :: rest))])) : MCalls Try.prog 35 [encV x, .ref id 0] S fun v σ' => v = .bool (f x) ∧ σ' = S := by
  obtain ⟨n, m, s, c, w⟩ := x
  refine mcalls_body Try.func35 rfl Try.ntmps35 (Nat.le_of_ble_eq_true rfl) ?_
  refine mwp_seq ?_
  refine mwp_region rfl ?_
  refine wOps_op rfl (op_box' rfl rfl rfl rfl ?_)
  refine wOps_op rfl (op_assign rfl rfl ?_)
  refine wOps_nil ?_
  refine mwp_seq ?_
  refine mwp_draw [] [_] mo (by decide) rfl rfl rfl rfl ?_
  refine dOps_op rfl rfl (.cons (op_fieldAddr_ref rfl rfl fo24_1 ⟨rfl, rfl⟩) .nil) ?_
  refine dOps_op rfl rfl (.cons (op_load_far rfl rfl hS ta22 rfl ⟨rfl, rfl⟩) .nil) ?_
  refine dOps_op rfl rfl (.cons (op_indexAddr rfl Try.underlying22 sz24 (by decide) rfl rfl rfl (show _ = some (encS (.mk k1 i1)) from rfl) ⟨rfl, rfl⟩) .nil) ?_
  refine dOps_op rfl rfl (.cons (op_load_sptr rfl rfl ta24 rfl ⟨rfl, rfl⟩) .nil) ?_
  refine dOps_op rfl rfl (.cons (op_load' rfl rfl rfl ta30 rfl ⟨rfl, rfl⟩) .nil) ?_
  refine dOps_op rfl rfl (.cons (op_call rfl rfl rfl co22 (ih (.mk n m s c w) hx _)) .nil) ?_
  refine dOps_op rfl rfl (.cons (op_assign rfl rfl ⟨rfl, rfl⟩) .nil) ?_
  refine dOps_nil ?_
  refine mwp_ret ?_
  exact ret_tmp (.inr rfl) Try.results35 rfl (.of_eq (rfl)) (.bool _) ⟨rfl, rfl⟩

theorem is2v_spec (k k1 : Int) (i1 rest : List Sch) (f : Val → Bool) (ih : ∀ x, okV x → ∀ S : MS, MCalls Try.prog 22 [encS (.mk k1 i1), encV x] S fun v σ' => v = .bool (f x) ∧ σ' = S) (x : Val) (hx : okV x) (ida ids : Nat) (S : MS) (hA : S[ida]? = some (.cells [.fn (.func 35) [] [.ref ids 0]])) (hS : S[ids]? = some (.cells [.int .i64 k, .lst none 2 (encSs (.mk k1 i1 :: rest))])) : MCalls Try.prog 38 [encV x, .ref ida 0, .ref ids 0] S fun v σ' => v = .bool (!f x || noneF (.mk k1 i1) x) ∧ σ' = S := by
  obtain ⟨n, m, s, c, w⟩ := x
  refine mcalls_body Try.func38 rfl Try.ntmps38 (Nat.le_of_ble_eq_true rfl) ?_
  refine mwp_seq ?_
  refine mwp_region rfl ?_
  refine wOps_op rfl (op_box' rfl rfl rfl rfl ?_)
  refine wOps_op rfl (op_assign rfl rfl ?_)
  refine wOps_nil ?_
  refine mwp_seq ?_
  refine mwp_draw [] [_] mo (by decide) rfl rfl rfl rfl ?_
  refine dOps_op rfl rfl (.cons (op_load_far rfl rfl hA ta55 rfl ⟨rfl, rfl⟩) .nil) ?_
  refine dOps_op rfl rfl (.cons (op_load' rfl rfl rfl ta30 rfl ⟨rfl, rfl⟩) .nil) ?_
  refine dOps_op rfl rfl (.cons (op_call rfl rfl rfl co35 (is1v_spec k k1 i1 rest f ih (.mk n m s c w) hx ids _ (get_app hS))) .nil) ?_
  refine dOps_op rfl rfl (.cons (op_not rfl rfl ⟨rfl, rfl⟩) .nil) ?_
  refine dOps_op rfl rfl (.cons (op_move rfl rfl ⟨rfl, rfl⟩) .nil) ?_
  refine dOps_case (fun h9 => ?_) (fun h9 => ?_)
  ·
    refine dOps_skip rfl rfl ?_
    refine dOps_skip rfl rfl ?_
    refine dOps_skip rfl rfl ?_
    refine dOps_skip rfl rfl ?_
    refine dOps_skip rfl rfl ?_
    refine dOps_skip rfl rfl ?_
    refine dOps_op rfl rfl (.cons (op_pick rfl rfl rfl ⟨rfl, rfl⟩) .nil) ?_
    refine dOps_op rfl rfl (.cons (op_assign rfl rfl ⟨rfl, rfl⟩) .nil) ?_
    refine dOps_nil ?_
    refine mwp_ret ?_
    exact ret_tmp (.inr rfl) Try.results38 rfl (.of_eq (by simp_all)) (.bool _) ⟨rfl, rfl⟩
  ·
    refine dOps_op rfl rfl (.cons (op_fieldAddr_ref rfl rfl fo24_1 ⟨rfl, rfl⟩) .nil) ?_
    refine dOps_op rfl rfl (.cons (op_load_far rfl rfl hS ta22 rfl ⟨rfl, rfl⟩) .nil) ?_
    refine dOps_op rfl rfl (.cons (op_indexAddr rfl Try.underlying22 sz24 (by decide) rfl rfl rfl (show _ = some (encS (.mk k1 i1)) from rfl) ⟨rfl, rfl⟩) .nil) ?_
    refine dOps_op rfl rfl (.cons (op_load_sptr rfl rfl ta24 rfl ⟨rfl, rfl⟩) .nil) ?_
    refine dOps_op rfl rfl (.cons (op_load' rfl rfl rfl ta30 rfl ⟨rfl, rfl⟩) .nil) ?_
    refine dOps_op rfl rfl (.cons (op_call rfl rfl rfl co14 (None_spec (.mk k1 i1) (.mk n m s c w) _)) .nil) ?_
    refine dOps_op rfl rfl (.cons (op_pick rfl rfl rfl ⟨rfl, rfl⟩) .nil) ?_
    refine dOps_op rfl rfl (.cons (op_assign rfl rfl ⟨rfl, rfl⟩) .nil) ?_
    refine dOps_nil ?_
    refine mwp_ret ?_
    exact ret_tmp (.inr rfl) Try.results38 rfl (.of_eq (by simp_all)) (.bool _) ⟨rfl, rfl⟩

theorem is3v_spec (k k1 : Int) (i1 rest : List Sch) (f : Val → Bool) (ih : ∀ x, okV x → ∀ S : MS, MCalls Try.prog 22 [encS (.mk k1 i1), encV x] S fun v σ' => v = .bool (f x) ∧ σ' = S) (x : Val) (hx : okV x) (ida ids : Nat) (S : MS) (hA : S[ida]? = some (.cells [.fn (.func 35) [] [.ref ids 0]])) (hS : S[ids]? = some (.cells [.int .i64 k, .lst none 2 (encSs (.mk k1 i1 :: rest))])) : MCalls Try.prog 42 [encV x, .ref ida 0] S fun v σ' => v = .bool (!f x) ∧ σ' = S := by
  obtain ⟨n, m, s, c, w⟩ := x
  refine mcalls_body Try.func42 rfl Try.ntmps42 (Nat.le_of_ble_eq_true rfl) ?_
  refine mwp_seq ?_
  refine mwp_region rfl ?_
  refine wOps_op rfl (op_box' rfl rfl rfl rfl ?_)
  refine wOps_op rfl (op_assign rfl rfl ?_)
  refine wOps_nil ?_
  refine mwp_seq ?_
  refine mwp_region rfl ?_
  refine wOps_op rfl (op_load_far rfl rfl hA ta55 rfl ?_)
  refine wOps_op rfl (op_load' rfl rfl rfl ta30 rfl ?_)
  refine wOps_op rfl (op_call rfl rfl rfl co35 ((is1v_spec k k1 i1 rest f ih (.mk n m s c w) hx ids _ (get_app hS)).mono ?_))
  rintro _ _ ⟨rfl, rfl⟩
  refine wOps_op rfl (op_not rfl rfl ?_)
  refine wOps_op rfl (op_assign rfl rfl ?_)
  refine wOps_nil ?_
  refine mwp_ret ?_
  exact ret_tmp (.inr rfl) Try.results42 rfl (.of_eq (rfl)) (.bool _) ⟨rfl, rfl⟩

theorem isV_spec (d : Nat) : ∀ (s : Sch), isF d s = true → ∀ x : Val, okV x → ∀ S : MS, MCalls Try.prog 22 [encS s, encV x] S fun v σ' => v = .bool (isVF s x) ∧ σ' = S := by
  induction d with
  | zero => intro s h; simp [isF] at h
  | succ d ih =>
  rintro ⟨k, ins⟩ hd ⟨n, m, s, c, w⟩ hv S
  rw [isF] at hd
  simp only [Bool.and_eq_true, List.all_eq_true, beq_iff_eq] at hd
  simp only [okV] at hv
  have hvs := okVs_iff.1 hv.2.2.2
  rcases k8_of hd.1 with rfl | rfl | rfl | rfl | rfl | rfl | rfl | rfl
  ·
    refine mcalls_body Try.func22 rfl Try.ntmps22 (Nat.le_of_ble_eq_true rfl) ?_
    refine mwp_seq ?_
    refine mwp_region rfl ?_
    refine wOps_op rfl (op_box' rfl rfl rfl rfl ?_)
    refine wOps_op rfl (op_box' rfl rfl rfl rfl ?_)
    refine wOps_op rfl (op_assign rfl rfl ?_)
    refine wOps_nil ?_
    refine mwp_seq ?_
    refine mwp_seq ?_
    refine mwp_region rfl ?_
    refine wOps_op rfl (op_fieldAddr_ref rfl rfl fo24_0 ?_)
    refine wOps_op rfl (op_load' rfl rfl rfl ta3 rfl ?_)
    refine wOps_op rfl (op_load' rfl rfl rfl ta30 rfl ?_)
    refine wOps_op rfl (op_call rfl rfl rfl co34 ((bare_spec 1 (by omega) n m s c w _).mono ?_))
    rintro _ _ ⟨rfl, rfl⟩
    refine wOps_op rfl (op_not rfl rfl ?_)
    refine wOps_op rfl (op_move rfl rfl ?_)
    refine wOps_case (fun h11 => ?_) (fun h11 => ?_)
    ·
      refine wOps_skip rfl ?_
      refine wOps_skip rfl ?_
      refine wOps_skip rfl ?_
      refine wOps_skip rfl ?_
      refine wOps_op rfl (op_pick rfl rfl rfl ?_)
      refine wOps_op rfl (op_move rfl rfl ?_)
      refine wOps_skip rfl ?_
      refine wOps_skip rfl ?_
      refine wOps_skip rfl ?_
      refine wOps_skip rfl ?_
      refine wOps_op rfl (op_pick rfl rfl rfl ?_)
      refine wOps_nil ?_
      refine mwp_cond_t rfl (rfl) ?_
      refine mwp_seq ?_
      refine mwp_region rfl ?_
      refine wOps_op rfl (op_assign rfl rfl ?_)
      refine wOps_nil ?_
      refine mwp_ret ?_
      exact ret_tmp (.inr rfl) Try.results22 rfl (.of_eq (by rw [isVF_mk 1]; congr 1; symm; first | (rw [show bareF 1 _ = false by simpa using h11]; rfl) | (rw [w40f]; simp; done) | (rw [c40f]; simp; done))) (.bool _) ⟨rfl, rfl⟩
    ·
      refine wOps_op rfl (op_fieldAddr_ref rfl rfl fo30_4 ?_)
      refine wOps_op rfl (op_load' rfl rfl rfl ta28 rfl ?_)
      refine wOps_op rfl (op_len_lst rfl Try.underlying28 rfl ?_)
      refine wOps_op rfl (op_cmp rfl rfl rfl rfl ?_)
      refine wOps_op rfl (op_pick rfl rfl rfl ?_)
      refine wOps_op rfl (op_move rfl rfl ?_)
      refine wOps_case (fun h17 => ?_) (fun h17 => ?_)
      ·
        have w40f := decide_eq_false (by rw [encVs_length] at h17; simp at h17; omega : ¬ w.length ≤ 40)
        refine wOps_skip rfl ?_
        refine wOps_skip rfl ?_
        refine wOps_skip rfl ?_
        refine wOps_skip rfl ?_
        refine wOps_op rfl (op_pick rfl rfl rfl ?_)
        refine wOps_nil ?_
        refine mwp_cond_t rfl (rfl) ?_
        refine mwp_seq ?_
        refine mwp_region rfl ?_
        refine wOps_op rfl (op_assign rfl rfl ?_)
        refine wOps_nil ?_
        refine mwp_ret ?_
        exact ret_tmp (.inr rfl) Try.results22 rfl (.of_eq (by rw [isVF_mk 1]; congr 1; symm; first | (rw [show bareF 1 _ = false by simpa using h11]; rfl) | (rw [w40f]; simp; done) | (rw [c40f]; simp; done))) (.bool _) ⟨rfl, rfl⟩
      ·
        have w40t := decide_eq_true (by rw [encVs_length] at h17; simp at h17; omega : w.length ≤ 40)
        refine wOps_op rfl (op_fieldAddr_ref rfl rfl fo30_3 ?_)
        refine wOps_op rfl (op_load' rfl rfl rfl ta27 rfl ?_)
        refine wOps_op rfl (op_len_lst rfl Try.underlying27 rfl ?_)
        refine wOps_op rfl (op_cmp rfl rfl rfl rfl ?_)
        refine wOps_op rfl (op_pick rfl rfl rfl ?_)
        refine wOps_nil ?_
        refine mwp_cond_split rfl (fun h22 => ?_) (fun h22 => ?_)
        · -- yes
          have c40f := decide_eq_false (by rw [List.length_map] at h22; simp at h22; omega : ¬ c.length ≤ 40)
          refine mwp_seq ?_
          refine mwp_region rfl ?_
          refine wOps_op rfl (op_assign rfl rfl ?_)
          refine wOps_nil ?_
          refine mwp_ret ?_
          exact ret_tmp (.inr rfl) Try.results22 rfl (.of_eq (by rw [isVF_mk 1]; congr 1; symm; first | (rw [show bareF 1 _ = false by simpa using h11]; rfl) | (rw [w40f]; simp; done) | (rw [c40f]; simp; done))) (.bool _) ⟨rfl, rfl⟩
        · -- no
          have c40t := decide_eq_true (by rw [List.length_map] at h22; simp at h22; omega : c.length ≤ 40)
          refine mwp_skip ?_
          refine mwp_seq ?_
          refine mwp_region rfl ?_
          refine wOps_op rfl (op_makeFunc rfl rfl rfl ?_)
          refine wOps_op rfl (op_alloc' rfl zm55 rfl rfl ?_)
          refine wOps_op rfl (op_store' rfl rfl rfl rfl sz55 rfl rfl (Nat.le_of_ble_eq_true rfl) rfl ?_)
          refine wOps_nil ?_
          refine mwp_seq ?_
          refine mwp_seq ?_
          refine mwp_region rfl ?_
          refine wOps_op rfl (op_fieldAddr_ref rfl rfl fo24_0 ?_)
          refine wOps_op rfl (op_load' rfl rfl rfl ta3 rfl ?_)
          refine wOps_nil ?_
          refine mwp_block ?_
          refine mwp_seq ?_
          refine mwp_region rfl ?_
          refine wOps_op rfl (op_cmp rfl rfl rfl rfl ?_)
          refine wOps_op rfl (op_assign rfl rfl ?_)
          refine wOps_nil ?_
          refine mwp_cond_t rfl (rfl) ?_
          refine mwp_seq ?_
          refine mwp_region rfl ?_
          refine wOps_op rfl (op_assign rfl rfl ?_)
          refine wOps_nil ?_
          refine mwp_ret ?_
          exact ret_tmp (.inr rfl) Try.results22 rfl (.of_eq (by rw [isVF_mk 1]; rw [show bareF 1 _ = true by simpa using h11, w40t, c40t]; simp only [Bool.true_and, isVL, List.headD_cons, List.tail_cons]; rfl)) (.bool _) ⟨rfl, rfl⟩
  ·
    refine mcalls_body Try.func22 rfl Try.ntmps22 (Nat.le_of_ble_eq_true rfl) ?_
    refine mwp_seq ?_
    refine mwp_region rfl ?_
    refine wOps_op rfl (op_box' rfl rfl rfl rfl ?_)
    refine wOps_op rfl (op_box' rfl rfl rfl rfl ?_)
    refine wOps_op rfl (op_assign rfl rfl ?_)
    refine wOps_nil ?_
    refine mwp_seq ?_
    refine mwp_seq ?_
    refine mwp_region rfl ?_
    refine wOps_op rfl (op_fieldAddr_ref rfl rfl fo24_0 ?_)
    refine wOps_op rfl (op_load' rfl rfl rfl ta3 rfl ?_)
    refine wOps_op rfl (op_load' rfl rfl rfl ta30 rfl ?_)
    refine wOps_op rfl (op_call rfl rfl rfl co34 ((bare_spec 2 (by omega) n m s c w _).mono ?_))
    rintro _ _ ⟨rfl, rfl⟩
    refine wOps_op rfl (op_not rfl rfl ?_)
    refine wOps_op rfl (op_move rfl rfl ?_)
    refine wOps_case (fun h11 => ?_) (fun h11 => ?_)
    ·
      refine wOps_skip rfl ?_
      refine wOps_skip rfl ?_
      refine wOps_skip rfl ?_
      refine wOps_skip rfl ?_
      refine wOps_op rfl (op_pick rfl rfl rfl ?_)
      refine wOps_op rfl (op_move rfl rfl ?_)
      refine wOps_skip rfl ?_
      refine wOps_skip rfl ?_
      refine wOps_skip rfl ?_
      refine wOps_skip rfl ?_
      refine wOps_op rfl (op_pick rfl rfl rfl ?_)
      refine wOps_nil ?_
      refine mwp_cond_t rfl (rfl) ?_
      refine mwp_seq ?_
      refine mwp_region rfl ?_
      refine wOps_op rfl (op_assign rfl rfl ?_)
      refine wOps_nil ?_
      refine mwp_ret ?_
      exact ret_tmp (.inr rfl) Try.results22 rfl (.of_eq (by rw [isVF_mk 2]; congr 1; symm; first | (rw [show bareF 2 _ = false by simpa using h11]; rfl) | (rw [w40f]; simp; done) | (rw [c40f]; simp; done))) (.bool _) ⟨rfl, rfl⟩
    ·
      refine wOps_op rfl (op_fieldAddr_ref rfl rfl fo30_4 ?_)
      refine wOps_op rfl (op_load' rfl rfl rfl ta28 rfl ?_)
      refine wOps_op rfl (op_len_lst rfl Try.underlying28 rfl ?_)
      refine wOps_op rfl (op_cmp rfl rfl rfl rfl ?_)
      refine wOps_op rfl (op_pick rfl rfl rfl ?_)
      refine wOps_op rfl (op_move rfl rfl ?_)
      refine wOps_case (fun h17 => ?_) (fun h17 => ?_)
      ·
        have w40f := decide_eq_false (by rw [encVs_length] at h17; simp at h17; omega : ¬ w.length ≤ 40)
        refine wOps_skip rfl ?_
        refine wOps_skip rfl ?_
        refine wOps_skip rfl ?_
        refine wOps_skip rfl ?_
        refine wOps_op rfl (op_pick rfl rfl rfl ?_)
        refine wOps_nil ?_
        refine mwp_cond_t rfl (rfl) ?_
        refine mwp_seq ?_
        refine mwp_region rfl ?_
        refine wOps_op rfl (op_assign rfl rfl ?_)
        refine wOps_nil ?_
        refine mwp_ret ?_
        exact ret_tmp (.inr rfl) Try.results22 rfl (.of_eq (by rw [isVF_mk 2]; congr 1; symm; first | (rw [show bareF 2 _ = false by simpa using h11]; rfl) | (rw [w40f]; simp; done) | (rw [c40f]; simp; done))) (.bool _) ⟨rfl, rfl⟩
      ·
        have w40t := decide_eq_true (by rw [encVs_length] at h17; simp at h17; omega : w.length ≤ 40)
        refine wOps_op rfl (op_fieldAddr_ref rfl rfl fo30_3 ?_)
        refine wOps_op rfl (op_load' rfl rfl rfl ta27 rfl ?_)
        refine wOps_op rfl (op_len_lst rfl Try.underlying27 rfl ?_)
        refine wOps_op rfl (op_cmp rfl rfl rfl rfl ?_)
        refine wOps_op rfl (op_pick rfl rfl rfl ?_)
        refine wOps_nil ?_
        refine mwp_cond_split rfl (fun h22 => ?_) (fun h22 => ?_)
        · -- yes
          have c40f := decide_eq_false (by rw [List.length_map] at h22; simp at h22; omega : ¬ c.length ≤ 40)
          refine mwp_seq ?_
          refine mwp_region rfl ?_
          refine wOps_op rfl (op_assign rfl rfl ?_)
          refine wOps_nil ?_
          refine mwp_ret ?_
          exact ret_tmp (.inr rfl) Try.results22 rfl (.of_eq (by rw [isVF_mk 2]; congr 1; symm; first | (rw [show bareF 2 _ = false by simpa using h11]; rfl) | (rw [w40f]; simp; done) | (rw [c40f]; simp; done))) (.bool _) ⟨rfl, rfl⟩
        · -- no
          have c40t := decide_eq_true (by rw [List.length_map] at h22; simp at h22; omega : c.length ≤ 40)
          refine mwp_skip ?_
          refine mwp_seq ?_
          refine mwp_region rfl ?_
          refine wOps_op rfl (op_makeFunc rfl rfl rfl ?_)
          refine wOps_op rfl (op_alloc' rfl zm55 rfl rfl ?_)
          refine wOps_op rfl (op_store' rfl rfl rfl rfl sz55 rfl rfl (Nat.le_of_ble_eq_true rfl) rfl ?_)
          refine wOps_nil ?_
          refine mwp_seq ?_
          refine mwp_seq ?_
          refine mwp_region rfl ?_
          refine wOps_op rfl (op_fieldAddr_ref rfl rfl fo24_0 ?_)
          refine wOps_op rfl (op_load' rfl rfl rfl ta3 rfl ?_)
          refine wOps_nil ?_
          refine mwp_block ?_
          refine mwp_seq ?_
          refine mwp_region rfl ?_
          refine wOps_op rfl (op_cmp rfl rfl rfl rfl ?_)
          refine wOps_op rfl (op_assign rfl rfl ?_)
          refine wOps_nil ?_
          refine mwp_cond_f rfl (rfl) ?_
          refine mwp_seq ?_
          refine mwp_region rfl ?_
          refine wOps_op rfl (op_cmp rfl rfl rfl rfl ?_)
          refine wOps_op rfl (op_assign rfl rfl ?_)
          refine wOps_nil ?_
          refine mwp_cond_t rfl (rfl) ?_
          refine mwp_seq ?_
          refine mwp_region rfl ?_
          refine wOps_op rfl (op_fieldAddr_ref rfl rfl fo30_0 ?_)
          refine wOps_op rfl (op_load' rfl rfl rfl ta25 rfl ?_)
          refine wOps_op rfl (op_cmp rfl rfl rfl rfl ?_)
          refine wOps_op rfl (op_assign rfl rfl ?_)
          refine wOps_nil ?_
          refine mwp_ret ?_
          exact ret_tmp (.inr rfl) Try.results22 rfl (.of_eq (by rw [isVF_mk 2]; rw [show bareF 2 _ = true by simpa using h11, w40t, c40t]; simp only [Bool.true_and, isVL, List.headD_cons, List.tail_cons]; rfl)) (.bool _) ⟨rfl, rfl⟩
  ·
    refine mcalls_body Try.func22 rfl Try.ntmps22 (Nat.le_of_ble_eq_true rfl) ?_
    refine mwp_seq ?_
    refine mwp_region rfl ?_
    refine wOps_op rfl (op_box' rfl rfl rfl rfl ?_)
    refine wOps_op rfl (op_box' rfl rfl rfl rfl ?_)
    refine wOps_op rfl (op_assign rfl rfl ?_)
    refine wOps_nil ?_
    refine mwp_seq ?_
    refine mwp_seq ?_
    refine mwp_region rfl ?_
    refine wOps_op rfl (op_fieldAddr_ref rfl rfl fo24_0 ?_)
    refine wOps_op rfl (op_load' rfl rfl rfl ta3 rfl ?_)
    refine wOps_op rfl (op_load' rfl rfl rfl ta30 rfl ?_)
    refine wOps_op rfl (op_call rfl rfl rfl co34 ((bare_spec 3 (by omega) n m s c w _).mono ?_))
    rintro _ _ ⟨rfl, rfl⟩
    refine wOps_op rfl (op_not rfl rfl ?_)
    refine wOps_op rfl (op_move rfl rfl ?_)
    refine wOps_case (fun h11 => ?_) (fun h11 => ?_)
    ·
      refine wOps_skip rfl ?_
      refine wOps_skip rfl ?_
      refine wOps_skip rfl ?_
      refine wOps_skip rfl ?_
      refine wOps_op rfl (op_pick rfl rfl rfl ?_)
      refine wOps_op rfl (op_move rfl rfl ?_)
      refine wOps_skip rfl ?_
      refine wOps_skip rfl ?_
      refine wOps_skip rfl ?_
      refine wOps_skip rfl ?_
      refine wOps_op rfl (op_pick rfl rfl rfl ?_)
      refine wOps_nil ?_
      refine mwp_cond_t rfl (rfl) ?_
      refine mwp_seq ?_
      refine mwp_region rfl ?_
      refine wOps_op rfl (op_assign rfl rfl ?_)
      refine wOps_nil ?_
      refine mwp_ret ?_
      exact ret_tmp (.inr rfl) Try.results22 rfl (.of_eq (by rw [isVF_mk 3]; congr 1; symm; first | (rw [show bareF 3 _ = false by simpa using h11]; rfl) | (rw [w40f]; simp; done) | (rw [c40f]; simp; done))) (.bool _) ⟨rfl, rfl⟩
    ·
      refine wOps_op rfl (op_fieldAddr_ref rfl rfl fo30_4 ?_)
      refine wOps_op rfl (op_load' rfl rfl rfl ta28 rfl ?_)
      refine wOps_op rfl (op_len_lst rfl Try.underlying28 rfl ?_)
      refine wOps_op rfl (op_cmp rfl rfl rfl rfl ?_)
      refine wOps_op rfl (op_pick rfl rfl rfl ?_)
      refine wOps_op rfl (op_move rfl rfl ?_)
      refine wOps_case (fun h17 => ?_) (fun h17 => ?_)
      ·
        have w40f := decide_eq_false (by rw [encVs_length] at h17; simp at h17; omega : ¬ w.length ≤ 40)
        refine wOps_skip rfl ?_
        refine wOps_skip rfl ?_
        refine wOps_skip rfl ?_
        refine wOps_skip rfl ?_
        refine wOps_op rfl (op_pick rfl rfl rfl ?_)
        refine wOps_nil ?_
        refine mwp_cond_t rfl (rfl) ?_
        refine mwp_seq ?_
        refine mwp_region rfl ?_
        refine wOps_op rfl (op_assign rfl rfl ?_)
        refine wOps_nil ?_
        refine mwp_ret ?_
        exact ret_tmp (.inr rfl) Try.results22 rfl (.of_eq (by rw [isVF_mk 3]; congr 1; symm; first | (rw [show bareF 3 _ = false by simpa using h11]; rfl) | (rw [w40f]; simp; done) | (rw [c40f]; simp; done))) (.bool _) ⟨rfl, rfl⟩
      ·
        have w40t := decide_eq_true (by rw [encVs_length] at h17; simp at h17; omega : w.length ≤ 40)
        refine wOps_op rfl (op_fieldAddr_ref rfl rfl fo30_3 ?_)
        refine wOps_op rfl (op_load' rfl rfl rfl ta27 rfl ?_)
        refine wOps_op rfl (op_len_lst rfl Try.underlying27 rfl ?_)
        refine wOps_op rfl (op_cmp rfl rfl rfl rfl ?_)
        refine wOps_op rfl (op_pick rfl rfl rfl ?_)
        refine wOps_nil ?_
        refine mwp_cond_split rfl (fun h22 => ?_) (fun h22 => ?_)
        · -- yes
          have c40f := decide_eq_false (by rw [List.length_map] at h22; simp at h22; omega : ¬ c.length ≤ 40)
          refine mwp_seq ?_
          refine mwp_region rfl ?_
          refine wOps_op rfl (op_assign rfl rfl ?_)
          refine wOps_nil ?_
          refine mwp_ret ?_
          exact ret_tmp (.inr rfl) Try.results22 rfl (.of_eq (by rw [isVF_mk 3]; congr 1; symm; first | (rw [show bareF 3 _ = false by simpa using h11]; rfl) | (rw [w40f]; simp; done) | (rw [c40f]; simp; done))) (.bool _) ⟨rfl, rfl⟩
        · -- no
          have c40t := decide_eq_true (by rw [List.length_map] at h22; simp at h22; omega : c.length ≤ 40)
          refine mwp_skip ?_
          refine mwp_seq ?_
          refine mwp_region rfl ?_
          refine wOps_op rfl (op_makeFunc rfl rfl rfl ?_)
          refine wOps_op rfl (op_alloc' rfl zm55 rfl rfl ?_)
          refine wOps_op rfl (op_store' rfl rfl rfl rfl sz55 rfl rfl (Nat.le_of_ble_eq_true rfl) rfl ?_)
          refine wOps_nil ?_
          refine mwp_seq ?_
          refine mwp_seq ?_
          refine mwp_region rfl ?_
          refine wOps_op rfl (op_fieldAddr_ref rfl rfl fo24_0 ?_)
          refine wOps_op rfl (op_load' rfl rfl rfl ta3 rfl ?_)
          refine wOps_nil ?_
          refine mwp_block ?_
          refine mwp_seq ?_
          refine mwp_region rfl ?_
          refine wOps_op rfl (op_cmp rfl rfl rfl rfl ?_)
          refine wOps_op rfl (op_assign rfl rfl ?_)
          refine wOps_nil ?_
          refine mwp_cond_f rfl (rfl) ?_
          refine mwp_seq ?_
          refine mwp_region rfl ?_
          refine wOps_op rfl (op_cmp rfl rfl rfl rfl ?_)
          refine wOps_op rfl (op_assign rfl rfl ?_)
          refine wOps_nil ?_
          refine mwp_cond_f rfl (rfl) ?_
          refine mwp_seq ?_
          refine mwp_region rfl ?_
          refine wOps_op rfl (op_cmp rfl rfl rfl rfl ?_)
          refine wOps_op rfl (op_assign rfl rfl ?_)
          refine wOps_nil ?_
          refine mwp_cond_t rfl (rfl) ?_
          refine mwp_seq ?_
          refine mwp_region rfl ?_
          refine wOps_op rfl (op_fieldAddr_ref rfl rfl fo30_2 ?_)
          refine wOps_op rfl (op_load' rfl rfl rfl ta26 rfl ?_)
          refine wOps_op rfl (op_call rfl rfl rfl co36 ((isRow_spec s _).mono ?_))
          rintro _ _ ⟨rfl, rfl⟩
          refine wOps_op rfl (op_assign rfl rfl ?_)
          refine wOps_nil ?_
          refine mwp_ret ?_
          exact ret_tmp (.inr rfl) Try.results22 rfl (.of_eq (by rw [isVF_mk 3]; rw [show bareF 3 _ = true by simpa using h11, w40t, c40t]; simp only [Bool.true_and, isVL, List.headD_cons, List.tail_cons]; rfl)) (.bool _) ⟨rfl, rfl⟩
  ·
    obtain ⟨⟨k1, i1⟩, rfl⟩ := one_ins hd.1 (by decide)
    have ih1 := ih (.mk k1 i1) (hd.2 _ (by simp))
    refine mcalls_body Try.func22 rfl Try.ntmps22 (Nat.le_of_ble_eq_true rfl) ?_
    refine mwp_seq ?_
    refine mwp_region rfl ?_
    refine wOps_op rfl (op_box' rfl rfl rfl rfl ?_)
    refine wOps_op rfl (op_box' rfl rfl rfl rfl ?_)
    refine wOps_op rfl (op_assign rfl rfl ?_)
    refine wOps_nil ?_
    refine mwp_seq ?_
    refine mwp_seq ?_
    refine mwp_region rfl ?_
    refine wOps_op rfl (op_fieldAddr_ref rfl rfl fo24_0 ?_)
    refine wOps_op rfl (op_load' rfl rfl rfl ta3 rfl ?_)
    refine wOps_op rfl (op_load' rfl rfl rfl ta30 rfl ?_)
    refine wOps_op rfl (op_call rfl rfl rfl co34 ((bare_spec 4 (by omega) n m s c w _).mono ?_))
    rintro _ _ ⟨rfl, rfl⟩
    refine wOps_op rfl (op_not rfl rfl ?_)
    refine wOps_op rfl (op_move rfl rfl ?_)
    refine wOps_case (fun h11 => ?_) (fun h11 => ?_)
    ·
      refine wOps_skip rfl ?_
      refine wOps_skip rfl ?_
      refine wOps_skip rfl ?_
      refine wOps_skip rfl ?_
      refine wOps_op rfl (op_pick rfl rfl rfl ?_)
      refine wOps_op rfl (op_move rfl rfl ?_)
      refine wOps_skip rfl ?_
      refine wOps_skip rfl ?_
      refine wOps_skip rfl ?_
      refine wOps_skip rfl ?_
      refine wOps_op rfl (op_pick rfl rfl rfl ?_)
      refine wOps_nil ?_
      refine mwp_cond_t rfl (rfl) ?_
      refine mwp_seq ?_
      refine mwp_region rfl ?_
      refine wOps_op rfl (op_assign rfl rfl ?_)
      refine wOps_nil ?_
      refine mwp_ret ?_
      exact ret_tmp (.inr rfl) Try.results22 rfl (.of_eq (by rw [isVF_mk 4]; congr 1; symm; first | (rw [show bareF 4 _ = false by simpa using h11]; rfl) | (rw [w40f]; simp; done) | (rw [c40f]; simp; done))) (.bool _) ⟨rfl, rfl⟩
    ·
      refine wOps_op rfl (op_fieldAddr_ref rfl rfl fo30_4 ?_)
      refine wOps_op rfl (op_load' rfl rfl rfl ta28 rfl ?_)
      refine wOps_op rfl (op_len_lst rfl Try.underlying28 rfl ?_)
      refine wOps_op rfl (op_cmp rfl rfl rfl rfl ?_)
      refine wOps_op rfl (op_pick rfl rfl rfl ?_)
      refine wOps_op rfl (op_move rfl rfl ?_)
      refine wOps_case (fun h17 => ?_) (fun h17 => ?_)
      ·
        have w40f := decide_eq_false (by rw [encVs_length] at h17; simp at h17; omega : ¬ w.length ≤ 40)
        refine wOps_skip rfl ?_
        refine wOps_skip rfl ?_
        refine wOps_skip rfl ?_
        refine wOps_skip rfl ?_
        refine wOps_op rfl (op_pick rfl rfl rfl ?_)
        refine wOps_nil ?_
        refine mwp_cond_t rfl (rfl) ?_
        refine mwp_seq ?_
        refine mwp_region rfl ?_
        refine wOps_op rfl (op_assign rfl rfl ?_)
        refine wOps_nil ?_
        refine mwp_ret ?_
        exact ret_tmp (.inr rfl) Try.results22 rfl (.of_eq (by rw [isVF_mk 4]; congr 1; symm; first | (rw [show bareF 4 _ = false by simpa using h11]; rfl) | (rw [w40f]; simp; done) | (rw [c40f]; simp; done))) (.bool _) ⟨rfl, rfl⟩
      ·
        have w40t := decide_eq_true (by rw [encVs_length] at h17; simp at h17; omega : w.length ≤ 40)
        refine wOps_op rfl (op_fieldAddr_ref rfl rfl fo30_3 ?_)
        refine wOps_op rfl (op_load' rfl rfl rfl ta27 rfl ?_)
        refine wOps_op rfl (op_len_lst rfl Try.underlying27 rfl ?_)
        refine wOps_op rfl (op_cmp rfl rfl rfl rfl ?_)
        refine wOps_op rfl (op_pick rfl rfl rfl ?_)
        refine wOps_nil ?_
        refine mwp_cond_split rfl (fun h22 => ?_) (fun h22 => ?_)
        · -- yes
          have c40f := decide_eq_false (by rw [List.length_map] at h22; simp at h22; omega : ¬ c.length ≤ 40)
          refine mwp_seq ?_
          refine mwp_region rfl ?_
          refine wOps_op rfl (op_assign rfl rfl ?_)
          refine wOps_nil ?_
          refine mwp_ret ?_
          exact ret_tmp (.inr rfl) Try.results22 rfl (.of_eq (by rw [isVF_mk 4]; congr 1; symm; first | (rw [show bareF 4 _ = false by simpa using h11]; rfl) | (rw [w40f]; simp; done) | (rw [c40f]; simp; done))) (.bool _) ⟨rfl, rfl⟩
        · -- no
          have c40t := decide_eq_true (by rw [List.length_map] at h22; simp at h22; omega : c.length ≤ 40)
          refine mwp_skip ?_
          refine mwp_seq ?_
          refine mwp_region rfl ?_
          refine wOps_op rfl (op_makeFunc rfl rfl rfl ?_)
          refine wOps_op rfl (op_alloc' rfl zm55 rfl rfl ?_)
          refine wOps_op rfl (op_store' rfl rfl rfl rfl sz55 rfl rfl (Nat.le_of_ble_eq_true rfl) rfl ?_)
          refine wOps_nil ?_
          refine mwp_seq ?_
          refine mwp_seq ?_
          refine mwp_region rfl ?_
          refine wOps_op rfl (op_fieldAddr_ref rfl rfl fo24_0 ?_)
          refine wOps_op rfl (op_load' rfl rfl rfl ta3 rfl ?_)
          refine wOps_nil ?_
          refine mwp_block ?_
          refine mwp_seq ?_
          refine mwp_region rfl ?_
          refine wOps_op rfl (op_cmp rfl rfl rfl rfl ?_)
          refine wOps_op rfl (op_assign rfl rfl ?_)
          refine wOps_nil ?_
          refine mwp_cond_f rfl (rfl) ?_
          refine mwp_seq ?_
          refine mwp_region rfl ?_
          refine wOps_op rfl (op_cmp rfl rfl rfl rfl ?_)
          refine wOps_op rfl (op_assign rfl rfl ?_)
          refine wOps_nil ?_
          refine mwp_cond_f rfl (rfl) ?_
          refine mwp_seq ?_
          refine mwp_region rfl ?_
          refine wOps_op rfl (op_cmp rfl rfl rfl rfl ?_)
          refine wOps_op rfl (op_assign rfl rfl ?_)
          refine wOps_nil ?_
          refine mwp_cond_f rfl (rfl) ?_
          refine mwp_seq ?_
          refine mwp_region rfl ?_
          refine wOps_op rfl (op_cmp rfl rfl rfl rfl ?_)
          refine wOps_op rfl (op_assign rfl rfl ?_)
          refine wOps_nil ?_
          refine mwp_cond_t rfl (rfl) ?_
          refine mwp_seq ?_
          refine mwp_region rfl ?_
          refine wOps_op rfl (op_fieldAddr_ref rfl rfl fo30_2 ?_)
          refine wOps_op rfl (op_load' rfl rfl rfl ta26 rfl ?_)
          refine wOps_op rfl (op_call rfl rfl rfl co36 ((isRow_spec s _).mono ?_))
          rintro _ _ ⟨rfl, rfl⟩
          refine wOps_op rfl (op_move rfl rfl ?_)
          refine wOps_case (fun h43 => ?_) (fun h43 => ?_)
          ·
            refine wOps_op rfl (op_fieldAddr_ref rfl rfl fo30_2 ?_)
            refine wOps_op rfl (op_load' rfl rfl rfl ta26 rfl ?_)
            refine wOps_op rfl (op_len_lst rfl Try.underlying26 rfl ?_)
            refine wOps_op rfl (op_fieldAddr_ref rfl rfl fo30_4 ?_)
            refine wOps_op rfl (op_load' rfl rfl rfl ta28 rfl ?_)
            refine wOps_op rfl (op_len_lst rfl Try.underlying28 rfl ?_)
            refine wOps_op rfl (op_cmp rfl rfl rfl rfl ?_)
            refine wOps_op rfl (op_pick rfl rfl rfl ?_)
            refine wOps_op rfl (op_move rfl rfl ?_)
            refine wOps_case (fun h52 => ?_) (fun h52 => ?_)
            ·
              have hsl : s.length = w.length := by rw [List.length_map, encVs_length] at h52; simp at h52; omega
              refine wOps_op rfl (op_fieldAddr_ref rfl rfl fo30_4 ?_)
              refine wOps_op rfl (op_load' rfl rfl rfl ta28 rfl ?_)
              refine wOps_op rfl (op_makeFunc rfl rfl rfl ?_)
              refine wOps_op rfl (op_call rfl rfl rfl co37 ((vContains_spec _ w (fun x => !isVF (.mk k1 i1) x || noneF (.mk k1 i1) x) _ [] [.ref (S.length + 2) 0, .ref (S.length + 0) 0] co38 (fun x hx X => is2v_spec 4 k1 i1 [] (isVF (.mk k1 i1)) ih1 x (hvs x hx) _ _ _ (get_mid_ (k := 2) rfl) (get_mid_ (k := 0) rfl))).mono ?_))
              rintro _ _ ⟨rfl, rfl⟩
              refine wOps_op rfl (op_not rfl rfl ?_)
              refine wOps_op rfl (op_pick rfl rfl rfl ?_)
              refine wOps_op rfl (op_assign rfl rfl ?_)
              refine wOps_nil ?_
              refine mwp_ret ?_
              exact ret_tmp (.inr rfl) Try.results22 rfl (.of_eq (by rw [isVF_mk 4]; rw [show bareF 4 _ = true by simpa using h11, w40t, c40t]; simp only [Bool.true_and, isVL, List.headD_cons, List.tail_cons]; congr 1; rw [Bool.eq_iff_iff]; simp_all [encVs_length, any_all])) (.bool _) ⟨rfl, rfl⟩
            ·
              have hsl : ¬ s.length = w.length := by rw [List.length_map, encVs_length] at h52; simp at h52; omega
              refine wOps_skip rfl ?_
              refine wOps_skip rfl ?_
              refine wOps_skip rfl ?_
              refine wOps_skip rfl ?_
              refine wOps_skip rfl ?_
              refine wOps_op rfl (op_pick rfl rfl rfl ?_)
              refine wOps_op rfl (op_assign rfl rfl ?_)
              refine wOps_nil ?_
              refine mwp_ret ?_
              exact ret_tmp (.inr rfl) Try.results22 rfl (.of_eq (by rw [isVF_mk 4]; rw [show bareF 4 _ = true by simpa using h11, w40t, c40t]; simp only [Bool.true_and, isVL, List.headD_cons, List.tail_cons]; congr 1; rw [Bool.eq_iff_iff]; simp_all [encVs_length, any_all])) (.bool _) ⟨rfl, rfl⟩
          ·
            refine wOps_skip rfl ?_
            refine wOps_skip rfl ?_
            refine wOps_skip rfl ?_
            refine wOps_skip rfl ?_
            refine wOps_skip rfl ?_
            refine wOps_skip rfl ?_
            refine wOps_skip rfl ?_
            refine wOps_op rfl (op_pick rfl rfl rfl ?_)
            refine wOps_op rfl (op_move rfl rfl ?_)
            refine wOps_skip rfl ?_
            refine wOps_skip rfl ?_
            refine wOps_skip rfl ?_
            refine wOps_skip rfl ?_
            refine wOps_skip rfl ?_
            refine wOps_op rfl (op_pick rfl rfl rfl ?_)
            refine wOps_op rfl (op_assign rfl rfl ?_)
            refine wOps_nil ?_
            refine mwp_ret ?_
            exact ret_tmp (.inr rfl) Try.results22 rfl (.of_eq (by rw [isVF_mk 4]; rw [show bareF 4 _ = true by simpa using h11, w40t, c40t]; simp only [Bool.true_and, isVL, List.headD_cons, List.tail_cons]; congr 1; rw [Bool.eq_iff_iff]; simp_all [encVs_length, any_all])) (.bool _) ⟨rfl, rfl⟩
  ·
    obtain ⟨⟨k1, i1⟩, ⟨k2, i2⟩, rfl⟩ := two_of hd.1
    have ih1 := ih (.mk k1 i1) (hd.2 _ (by simp))
    have ih2 := ih (.mk k2 i2) (hd.2 _ (by simp))
    refine mcalls_body Try.func22 rfl Try.ntmps22 (Nat.le_of_ble_eq_true rfl) ?_
    refine mwp_seq ?_
    refine mwp_region rfl ?_
    refine wOps_op rfl (op_box' rfl rfl rfl rfl ?_)
    refine wOps_op rfl (op_box' rfl rfl rfl rfl ?_)
    refine wOps_op rfl (op_assign rfl rfl ?_)
    refine wOps_nil ?_
    refine mwp_seq ?_
    refine mwp_seq ?_
    refine mwp_region rfl ?_
    refine wOps_op rfl (op_fieldAddr_ref rfl rfl fo24_0 ?_)
    refine wOps_op rfl (op_load' rfl rfl rfl ta3 rfl ?_)
    refine wOps_op rfl (op_load' rfl rfl rfl ta30 rfl ?_)
    refine wOps_op rfl (op_call rfl rfl rfl co34 ((bare_spec 5 (by omega) n m s c w _).mono ?_))
    rintro _ _ ⟨rfl, rfl⟩
    refine wOps_op rfl (op_not rfl rfl ?_)
    refine wOps_op rfl (op_move rfl rfl ?_)
    refine wOps_case (fun h11 => ?_) (fun h11 => ?_)
    ·
      refine wOps_skip rfl ?_
      refine wOps_skip rfl ?_
      refine wOps_skip rfl ?_
      refine wOps_skip rfl ?_
      refine wOps_op rfl (op_pick rfl rfl rfl ?_)
      refine wOps_op rfl (op_move rfl rfl ?_)
      refine wOps_skip rfl ?_
      refine wOps_skip rfl ?_
      refine wOps_skip rfl ?_
      refine wOps_skip rfl ?_
      refine wOps_op rfl (op_pick rfl rfl rfl ?_)
      refine wOps_nil ?_
      refine mwp_cond_t rfl (rfl) ?_
      refine mwp_seq ?_
      refine mwp_region rfl ?_
      refine wOps_op rfl (op_assign rfl rfl ?_)
      refine wOps_nil ?_
      refine mwp_ret ?_
      exact ret_tmp (.inr rfl) Try.results22 rfl (.of_eq (by rw [isVF_mk 5]; congr 1; symm; first | (rw [show bareF 5 _ = false by simpa using h11]; rfl) | (rw [w40f]; simp; done) | (rw [c40f]; simp; done))) (.bool _) ⟨rfl, rfl⟩
    ·
      refine wOps_op rfl (op_fieldAddr_ref rfl rfl fo30_4 ?_)
      refine wOps_op rfl (op_load' rfl rfl rfl ta28 rfl ?_)
      refine wOps_op rfl (op_len_lst rfl Try.underlying28 rfl ?_)
      refine wOps_op rfl (op_cmp rfl rfl rfl rfl ?_)
      refine wOps_op rfl (op_pick rfl rfl rfl ?_)
      refine wOps_op rfl (op_move rfl rfl ?_)
      refine wOps_case (fun h17 => ?_) (fun h17 => ?_)
      ·
        have w40f := decide_eq_false (by rw [encVs_length] at h17; simp at h17; omega : ¬ w.length ≤ 40)
        refine wOps_skip rfl ?_
        refine wOps_skip rfl ?_
        refine wOps_skip rfl ?_
        refine wOps_skip rfl ?_
        refine wOps_op rfl (op_pick rfl rfl rfl ?_)
        refine wOps_nil ?_
        refine mwp_cond_t rfl (rfl) ?_
        refine mwp_seq ?_
        refine mwp_region rfl ?_
        refine wOps_op rfl (op_assign rfl rfl ?_)
        refine wOps_nil ?_
        refine mwp_ret ?_
        exact ret_tmp (.inr rfl) Try.results22 rfl (.of_eq (by rw [isVF_mk 5]; congr 1; symm; first | (rw [show bareF 5 _ = false by simpa using h11]; rfl) | (rw [w40f]; simp; done) | (rw [c40f]; simp; done))) (.bool _) ⟨rfl, rfl⟩
      ·
        have w40t := decide_eq_true (by rw [encVs_length] at h17; simp at h17; omega : w.length ≤ 40)
        refine wOps_op rfl (op_fieldAddr_ref rfl rfl fo30_3 ?_)
        refine wOps_op rfl (op_load' rfl rfl rfl ta27 rfl ?_)
        refine wOps_op rfl (op_len_lst rfl Try.underlying27 rfl ?_)
        refine wOps_op rfl (op_cmp rfl rfl rfl rfl ?_)
        refine wOps_op rfl (op_pick rfl rfl rfl ?_)
        refine wOps_nil ?_
        refine mwp_cond_split rfl (fun h22 => ?_) (fun h22 => ?_)
        · -- yes
          have c40f := decide_eq_false (by rw [List.length_map] at h22; simp at h22; omega : ¬ c.length ≤ 40)
          refine mwp_seq ?_
          refine mwp_region rfl ?_
          refine wOps_op rfl (op_assign rfl rfl ?_)
          refine wOps_nil ?_
          refine mwp_ret ?_
          exact ret_tmp (.inr rfl) Try.results22 rfl (.of_eq (by rw [isVF_mk 5]; congr 1; symm; first | (rw [show bareF 5 _ = false by simpa using h11]; rfl) | (rw [w40f]; simp; done) | (rw [c40f]; simp; done))) (.bool _) ⟨rfl, rfl⟩
        · -- no
          have c40t := decide_eq_true (by rw [List.length_map] at h22; simp at h22; omega : c.length ≤ 40)
          refine mwp_skip ?_
          refine mwp_seq ?_
          refine mwp_region rfl ?_
          refine wOps_op rfl (op_makeFunc rfl rfl rfl ?_)
          refine wOps_op rfl (op_alloc' rfl zm55 rfl rfl ?_)
          refine wOps_op rfl (op_store' rfl rfl rfl rfl sz55 rfl rfl (Nat.le_of_ble_eq_true rfl) rfl ?_)
          refine wOps_nil ?_
          refine mwp_seq ?_
          refine mwp_seq ?_
          refine mwp_region rfl ?_
          refine wOps_op rfl (op_fieldAddr_ref rfl rfl fo24_0 ?_)
          refine wOps_op rfl (op_load' rfl rfl rfl ta3 rfl ?_)
          refine wOps_nil ?_
          refine mwp_block ?_
          refine mwp_seq ?_
          refine mwp_region rfl ?_
          refine wOps_op rfl (op_cmp rfl rfl rfl rfl ?_)
          refine wOps_op rfl (op_assign rfl rfl ?_)
          refine wOps_nil ?_
          refine mwp_cond_f rfl (rfl) ?_
          refine mwp_seq ?_
          refine mwp_region rfl ?_
          refine wOps_op rfl (op_cmp rfl rfl rfl rfl ?_)
          refine wOps_op rfl (op_assign rfl rfl ?_)
          refine wOps_nil ?_
          refine mwp_cond_f rfl (rfl) ?_
          refine mwp_seq ?_
          refine mwp_region rfl ?_
          refine wOps_op rfl (op_cmp rfl rfl rfl rfl ?_)
          refine wOps_op rfl (op_assign rfl rfl ?_)
          refine wOps_nil ?_
          refine mwp_cond_f rfl (rfl) ?_
          refine mwp_seq ?_
          refine mwp_region rfl ?_
          refine wOps_op rfl (op_cmp rfl rfl rfl rfl ?_)
          refine wOps_op rfl (op_assign rfl rfl ?_)
          refine wOps_nil ?_
          refine mwp_cond_f rfl (rfl) ?_
          refine mwp_seq ?_
          refine mwp_region rfl ?_
          refine wOps_op rfl (op_cmp rfl rfl rfl rfl ?_)
          refine wOps_op rfl (op_assign rfl rfl ?_)
          refine wOps_nil ?_
          refine mwp_cond_t rfl (rfl) ?_
          refine mwp_seq ?_
          refine mwp_draw [] [_] mo (by decide) rfl rfl rfl rfl ?_
          refine dOps_op rfl rfl (.cons (op_fieldAddr_ref rfl rfl fo30_4 ⟨rfl, rfl⟩) .nil) ?_
          refine dOps_op rfl rfl (.cons (op_load' rfl rfl rfl ta28 rfl ⟨rfl, rfl⟩) .nil) ?_
          refine dOps_op rfl rfl (.cons (op_len_lst rfl Try.underlying28 rfl ⟨rfl, rfl⟩) .nil) ?_
          refine dOps_op rfl rfl (.cons (op_cmp rfl rfl rfl rfl ⟨rfl, rfl⟩) .nil) ?_
          refine dOps_op rfl rfl (.cons (op_move rfl rfl ⟨rfl, rfl⟩) .nil) ?_
          refine dOps_case (fun h65 => ?_) (fun h65 => ?_)
          ·
            obtain ⟨⟨n1, m1, s1, c1, w1⟩, ⟨n2, m2, s2, c2, w2⟩, rfl⟩ := two_of' (by rw [encVs_length] at h65; simp at h65; omega : w.length = 2)
            refine dOps_op rfl rfl (.cons (op_fieldAddr_ref rfl rfl fo24_1 ⟨rfl, rfl⟩) .nil) ?_
            refine dOps_op rfl rfl (.cons (op_load' rfl rfl rfl ta22 rfl ⟨rfl, rfl⟩) .nil) ?_
            refine dOps_op rfl rfl (.cons (op_indexAddr rfl Try.underlying22 sz24 (by decide) rfl rfl rfl (show _ = some (encS (.mk k1 i1)) from rfl) ⟨rfl, rfl⟩) .nil) ?_
            refine dOps_op rfl rfl (.cons (op_load_sptr rfl rfl ta24 rfl ⟨rfl, rfl⟩) .nil) ?_
            refine dOps_op rfl rfl (.cons (op_fieldAddr_ref rfl rfl fo30_4 ⟨rfl, rfl⟩) .nil) ?_
            refine dOps_op rfl rfl (.cons (op_load' rfl rfl rfl ta28 rfl ⟨rfl, rfl⟩) .nil) ?_
            refine dOps_op rfl rfl (.cons (op_indexAddr rfl Try.underlying28 sz30 (by decide) rfl rfl rfl (show _ = some (encV (.mk n1 m1 s1 c1 w1)) from rfl) ⟨rfl, rfl⟩) .nil) ?_
            refine dOps_op rfl rfl (.cons (op_load_sptr rfl rfl ta30 rfl ⟨rfl, rfl⟩) .nil) ?_
            refine dOps_op rfl rfl (.cons (op_call rfl rfl rfl co22 (ih1 (.mk n1 m1 s1 c1 w1) (hvs _ (by simp)) _)) .nil) ?_
            refine dOps_op rfl rfl (.cons (op_pick rfl rfl rfl ⟨rfl, rfl⟩) .nil) ?_
            refine dOps_op rfl rfl (.cons (op_move rfl rfl ⟨rfl, rfl⟩) .nil) ?_
            refine dOps_case (fun h76 => ?_) (fun h76 => ?_)
            ·
              refine dOps_op rfl rfl (.cons (op_fieldAddr_ref rfl rfl fo24_1 ⟨rfl, rfl⟩) .nil) ?_
              refine dOps_op rfl rfl (.cons (op_load' rfl rfl rfl ta22 rfl ⟨rfl, rfl⟩) .nil) ?_
              refine dOps_op rfl rfl (.cons (op_indexAddr rfl Try.underlying22 sz24 (by decide) rfl rfl rfl (show _ = some (encS (.mk k2 i2)) from rfl) ⟨rfl, rfl⟩) .nil) ?_
              refine dOps_op rfl rfl (.cons (op_load_sptr rfl rfl ta24 rfl ⟨rfl, rfl⟩) .nil) ?_
              refine dOps_op rfl rfl (.cons (op_fieldAddr_ref rfl rfl fo30_4 ⟨rfl, rfl⟩) .nil) ?_
              refine dOps_op rfl rfl (.cons (op_load' rfl rfl rfl ta28 rfl ⟨rfl, rfl⟩) .nil) ?_
              refine dOps_op rfl rfl (.cons (op_indexAddr rfl Try.underlying28 sz30 (by decide) rfl rfl rfl (show _ = some (encV (.mk n2 m2 s2 c2 w2)) from rfl) ⟨rfl, rfl⟩) .nil) ?_
              refine dOps_op rfl rfl (.cons (op_load_sptr rfl rfl ta30 rfl ⟨rfl, rfl⟩) .nil) ?_
              refine dOps_op rfl rfl (.cons (op_call rfl rfl rfl co22 (ih2 (.mk n2 m2 s2 c2 w2) (hvs _ (by simp)) _)) .nil) ?_
              refine dOps_op rfl rfl (.cons (op_pick rfl rfl rfl ⟨rfl, rfl⟩) .nil) ?_
              refine dOps_op rfl rfl (.cons (op_assign rfl rfl ⟨rfl, rfl⟩) .nil) ?_
              refine dOps_nil ?_
              refine mwp_ret ?_
              exact ret_tmp (.inr rfl) Try.results22 rfl (.of_eq (by rw [isVF_mk 5]; rw [show bareF 5 _ = true by simpa using h11, w40t, c40t]; simp only [Bool.true_and, isVL, List.headD_cons, List.tail_cons]; first | (congr 1; symm; rw [if_neg (by decide), if_neg (by decide), if_neg (by decide), if_neg (by decide), if_pos True.intro]; exact hm2) | (congr 1; rw [Bool.eq_iff_iff]; simp_all [encVs_length]))) (.bool _) ⟨rfl, rfl⟩
            ·
              refine dOps_skip rfl rfl ?_
              refine dOps_skip rfl rfl ?_
              refine dOps_skip rfl rfl ?_
              refine dOps_skip rfl rfl ?_
              refine dOps_skip rfl rfl ?_
              refine dOps_skip rfl rfl ?_
              refine dOps_skip rfl rfl ?_
              refine dOps_skip rfl rfl ?_
              refine dOps_skip rfl rfl ?_
              refine dOps_op rfl rfl (.cons (op_pick rfl rfl rfl ⟨rfl, rfl⟩) .nil) ?_
              refine dOps_op rfl rfl (.cons (op_assign rfl rfl ⟨rfl, rfl⟩) .nil) ?_
              refine dOps_nil ?_
              refine mwp_ret ?_
              exact ret_tmp (.inr rfl) Try.results22 rfl (.of_eq (by rw [isVF_mk 5]; rw [show bareF 5 _ = true by simpa using h11, w40t, c40t]; simp only [Bool.true_and, isVL, List.headD_cons, List.tail_cons]; first | (congr 1; symm; rw [if_neg (by decide), if_neg (by decide), if_neg (by decide), if_neg (by decide), if_pos True.intro]; exact hm2) | (congr 1; rw [Bool.eq_iff_iff]; simp_all [encVs_length]))) (.bool _) ⟨rfl, rfl⟩
          ·
            have hm2 := match2_no (f := isVF (.mk k1 i1)) (g := isVF (.mk k2 i2)) (by rw [encVs_length] at h65; simp at h65; omega : w.length ≠ 2)
            refine dOps_skip rfl rfl ?_
            refine dOps_skip rfl rfl ?_
            refine dOps_skip rfl rfl ?_
            refine dOps_skip rfl rfl ?_
            refine dOps_skip rfl rfl ?_
            refine dOps_skip rfl rfl ?_
            refine dOps_skip rfl rfl ?_
            refine dOps_skip rfl rfl ?_
            refine dOps_skip rfl rfl ?_
            refine dOps_op rfl rfl (.cons (op_pick rfl rfl rfl ⟨rfl, rfl⟩) .nil) ?_
            refine dOps_op rfl rfl (.cons (op_move rfl rfl ⟨rfl, rfl⟩) .nil) ?_
            refine dOps_skip rfl rfl ?_
            refine dOps_skip rfl rfl ?_
            refine dOps_skip rfl rfl ?_
            refine dOps_skip rfl rfl ?_
            refine dOps_skip rfl rfl ?_
            refine dOps_skip rfl rfl ?_
            refine dOps_skip rfl rfl ?_
            refine dOps_skip rfl rfl ?_
            refine dOps_skip rfl rfl ?_
            refine dOps_op rfl rfl (.cons (op_pick rfl rfl rfl ⟨rfl, rfl⟩) .nil) ?_
            refine dOps_op rfl rfl (.cons (op_assign rfl rfl ⟨rfl, rfl⟩) .nil) ?_
            refine dOps_nil ?_
            refine mwp_ret ?_
            exact ret_tmp (.inr rfl) Try.results22 rfl (.of_eq (by rw [isVF_mk 5]; rw [show bareF 5 _ = true by simpa using h11, w40t, c40t]; simp only [Bool.true_and, isVL, List.headD_cons, List.tail_cons]; first | (congr 1; symm; rw [if_neg (by decide), if_neg (by decide), if_neg (by decide), if_neg (by decide), if_pos True.intro]; exact hm2) | (congr 1; rw [Bool.eq_iff_iff]; simp_all [encVs_length]))) (.bool _) ⟨rfl, rfl⟩
  ·
    refine mcalls_body Try.func22 rfl Try.ntmps22 (Nat.le_of_ble_eq_true rfl) ?_
    refine mwp_seq ?_
    refine mwp_region rfl ?_
    refine wOps_op rfl (op_box' rfl rfl rfl rfl ?_)
    refine wOps_op rfl (op_box' rfl rfl rfl rfl ?_)
    refine wOps_op rfl (op_assign rfl rfl ?_)
    refine wOps_nil ?_
    refine mwp_seq ?_
    refine mwp_seq ?_
    refine mwp_region rfl ?_
    refine wOps_op rfl (op_fieldAddr_ref rfl rfl fo24_0 ?_)
    refine wOps_op rfl (op_load' rfl rfl rfl ta3 rfl ?_)
    refine wOps_op rfl (op_load' rfl rfl rfl ta30 rfl ?_)
    refine wOps_op rfl (op_call rfl rfl rfl co34 ((bare_spec 6 (by omega) n m s c w _).mono ?_))
    rintro _ _ ⟨rfl, rfl⟩
    refine wOps_op rfl (op_not rfl rfl ?_)
    refine wOps_op rfl (op_move rfl rfl ?_)
    refine wOps_case (fun h11 => ?_) (fun h11 => ?_)
    ·
      refine wOps_skip rfl ?_
      refine wOps_skip rfl ?_
      refine wOps_skip rfl ?_
      refine wOps_skip rfl ?_
      refine wOps_op rfl (op_pick rfl rfl rfl ?_)
      refine wOps_op rfl (op_move rfl rfl ?_)
      refine wOps_skip rfl ?_
      refine wOps_skip rfl ?_
      refine wOps_skip rfl ?_
      refine wOps_skip rfl ?_
      refine wOps_op rfl (op_pick rfl rfl rfl ?_)
      refine wOps_nil ?_
      refine mwp_cond_t rfl (rfl) ?_
      refine mwp_seq ?_
      refine mwp_region rfl ?_
      refine wOps_op rfl (op_assign rfl rfl ?_)
      refine wOps_nil ?_
      refine mwp_ret ?_
      exact ret_tmp (.inr rfl) Try.results22 rfl (.of_eq (by rw [isVF_mk 6]; congr 1; symm; first | (rw [show bareF 6 _ = false by simpa using h11]; rfl) | (rw [w40f]; simp; done) | (rw [c40f]; simp; done))) (.bool _) ⟨rfl, rfl⟩
    ·
      refine wOps_op rfl (op_fieldAddr_ref rfl rfl fo30_4 ?_)
      refine wOps_op rfl (op_load' rfl rfl rfl ta28 rfl ?_)
      refine wOps_op rfl (op_len_lst rfl Try.underlying28 rfl ?_)
      refine wOps_op rfl (op_cmp rfl rfl rfl rfl ?_)
      refine wOps_op rfl (op_pick rfl rfl rfl ?_)
      refine wOps_op rfl (op_move rfl rfl ?_)
      refine wOps_case (fun h17 => ?_) (fun h17 => ?_)
      ·
        have w40f := decide_eq_false (by rw [encVs_length] at h17; simp at h17; omega : ¬ w.length ≤ 40)
        refine wOps_skip rfl ?_
        refine wOps_skip rfl ?_
        refine wOps_skip rfl ?_
        refine wOps_skip rfl ?_
        refine wOps_op rfl (op_pick rfl rfl rfl ?_)
        refine wOps_nil ?_
        refine mwp_cond_t rfl (rfl) ?_
        refine mwp_seq ?_
        refine mwp_region rfl ?_
        refine wOps_op rfl (op_assign rfl rfl ?_)
        refine wOps_nil ?_
        refine mwp_ret ?_
        exact ret_tmp (.inr rfl) Try.results22 rfl (.of_eq (by rw [isVF_mk 6]; congr 1; symm; first | (rw [show bareF 6 _ = false by simpa using h11]; rfl) | (rw [w40f]; simp; done) | (rw [c40f]; simp; done))) (.bool _) ⟨rfl, rfl⟩
      ·
        have w40t := decide_eq_true (by rw [encVs_length] at h17; simp at h17; omega : w.length ≤ 40)
        refine wOps_op rfl (op_fieldAddr_ref rfl rfl fo30_3 ?_)
        refine wOps_op rfl (op_load' rfl rfl rfl ta27 rfl ?_)
        refine wOps_op rfl (op_len_lst rfl Try.underlying27 rfl ?_)
        refine wOps_op rfl (op_cmp rfl rfl rfl rfl ?_)
        refine wOps_op rfl (op_pick rfl rfl rfl ?_)
        refine wOps_nil ?_
        refine mwp_cond_split rfl (fun h22 => ?_) (fun h22 => ?_)
        · -- yes
          have c40f := decide_eq_false (by rw [List.length_map] at h22; simp at h22; omega : ¬ c.length ≤ 40)
          refine mwp_seq ?_
          refine mwp_region rfl ?_
          refine wOps_op rfl (op_assign rfl rfl ?_)
          refine wOps_nil ?_
          refine mwp_ret ?_
          exact ret_tmp (.inr rfl) Try.results22 rfl (.of_eq (by rw [isVF_mk 6]; congr 1; symm; first | (rw [show bareF 6 _ = false by simpa using h11]; rfl) | (rw [w40f]; simp; done) | (rw [c40f]; simp; done))) (.bool _) ⟨rfl, rfl⟩
        · -- no
          have c40t := decide_eq_true (by rw [List.length_map] at h22; simp at h22; omega : c.length ≤ 40)
          refine mwp_skip ?_
          refine mwp_seq ?_
          refine mwp_region rfl ?_
          refine wOps_op rfl (op_makeFunc rfl rfl rfl ?_)
          refine wOps_op rfl (op_alloc' rfl zm55 rfl rfl ?_)
          refine wOps_op rfl (op_store' rfl rfl rfl rfl sz55 rfl rfl (Nat.le_of_ble_eq_true rfl) rfl ?_)
          refine wOps_nil ?_
          refine mwp_seq ?_
          refine mwp_seq ?_
          refine mwp_region rfl ?_
          refine wOps_op rfl (op_fieldAddr_ref rfl rfl fo24_0 ?_)
          refine wOps_op rfl (op_load' rfl rfl rfl ta3 rfl ?_)
          refine wOps_nil ?_
          refine mwp_block ?_
          refine mwp_seq ?_
          refine mwp_region rfl ?_
          refine wOps_op rfl (op_cmp rfl rfl rfl rfl ?_)
          refine wOps_op rfl (op_assign rfl rfl ?_)
          refine wOps_nil ?_
          refine mwp_cond_f rfl (rfl) ?_
          refine mwp_seq ?_
          refine mwp_region rfl ?_
          refine wOps_op rfl (op_cmp rfl rfl rfl rfl ?_)
          refine wOps_op rfl (op_assign rfl rfl ?_)
          refine wOps_nil ?_
          refine mwp_cond_f rfl (rfl) ?_
          refine mwp_seq ?_
          refine mwp_region rfl ?_
          refine wOps_op rfl (op_cmp rfl rfl rfl rfl ?_)
          refine wOps_op rfl (op_assign rfl rfl ?_)
          refine wOps_nil ?_
          refine mwp_cond_f rfl (rfl) ?_
          refine mwp_seq ?_
          refine mwp_region rfl ?_
          refine wOps_op rfl (op_cmp rfl rfl rfl rfl ?_)
          refine wOps_op rfl (op_assign rfl rfl ?_)
          refine wOps_nil ?_
          refine mwp_cond_f rfl (rfl) ?_
          refine mwp_seq ?_
          refine mwp_region rfl ?_
          refine wOps_op rfl (op_cmp rfl rfl rfl rfl ?_)
          refine wOps_op rfl (op_assign rfl rfl ?_)
          refine wOps_nil ?_
          refine mwp_cond_f rfl (rfl) ?_
          refine mwp_seq ?_
          refine mwp_region rfl ?_
          refine wOps_op rfl (op_cmp rfl rfl rfl rfl ?_)
          refine wOps_op rfl (op_assign rfl rfl ?_)
          refine wOps_nil ?_
          refine mwp_cond_t rfl (rfl) ?_
          refine mwp_seq ?_
          refine mwp_region rfl ?_
          refine wOps_op rfl (op_load' rfl rfl rfl ta30 rfl ?_)
          refine wOps_op rfl (op_call rfl rfl rfl co39 ((isLast_spec n m s c w hv.1.1 hv.2.1.1 _).mono ?_))
          rintro _ _ ⟨rfl, rfl⟩
          refine wOps_op rfl (op_assign rfl rfl ?_)
          refine wOps_nil ?_
          refine mwp_ret ?_
          exact ret_tmp (.inr rfl) Try.results22 rfl (.of_eq (by rw [isVF_mk 6]; rw [show bareF 6 _ = true by simpa using h11, w40t, c40t]; simp only [Bool.true_and, isVL, List.headD_cons, List.tail_cons]; rfl)) (.bool _) ⟨rfl, rfl⟩
  ·
    refine mcalls_body Try.func22 rfl Try.ntmps22 (Nat.le_of_ble_eq_true rfl) ?_
    refine mwp_seq ?_
    refine mwp_region rfl ?_
    refine wOps_op rfl (op_box' rfl rfl rfl rfl ?_)
    refine wOps_op rfl (op_box' rfl rfl rfl rfl ?_)
    refine wOps_op rfl (op_assign rfl rfl ?_)
    refine wOps_nil ?_
    refine mwp_seq ?_
    refine mwp_seq ?_
    refine mwp_region rfl ?_
    refine wOps_op rfl (op_fieldAddr_ref rfl rfl fo24_0 ?_)
    refine wOps_op rfl (op_load' rfl rfl rfl ta3 rfl ?_)
    refine wOps_op rfl (op_load' rfl rfl rfl ta30 rfl ?_)
    refine wOps_op rfl (op_call rfl rfl rfl co34 ((bare_spec 7 (by omega) n m s c w _).mono ?_))
    rintro _ _ ⟨rfl, rfl⟩
    refine wOps_op rfl (op_not rfl rfl ?_)
    refine wOps_op rfl (op_move rfl rfl ?_)
    refine wOps_case (fun h11 => ?_) (fun h11 => ?_)
    ·
      refine wOps_skip rfl ?_
      refine wOps_skip rfl ?_
      refine wOps_skip rfl ?_
      refine wOps_skip rfl ?_
      refine wOps_op rfl (op_pick rfl rfl rfl ?_)
      refine wOps_op rfl (op_move rfl rfl ?_)
      refine wOps_skip rfl ?_
      refine wOps_skip rfl ?_
      refine wOps_skip rfl ?_
      refine wOps_skip rfl ?_
      refine wOps_op rfl (op_pick rfl rfl rfl ?_)
      refine wOps_nil ?_
      refine mwp_cond_t rfl (rfl) ?_
      refine mwp_seq ?_
      refine mwp_region rfl ?_
      refine wOps_op rfl (op_assign rfl rfl ?_)
      refine wOps_nil ?_
      refine mwp_ret ?_
      exact ret_tmp (.inr rfl) Try.results22 rfl (.of_eq (by rw [isVF_mk 7]; congr 1; symm; first | (rw [show bareF 7 _ = false by simpa using h11]; rfl) | (rw [w40f]; simp; done) | (rw [c40f]; simp; done))) (.bool _) ⟨rfl, rfl⟩
    ·
      refine wOps_op rfl (op_fieldAddr_ref rfl rfl fo30_4 ?_)
      refine wOps_op rfl (op_load' rfl rfl rfl ta28 rfl ?_)
      refine wOps_op rfl (op_len_lst rfl Try.underlying28 rfl ?_)
      refine wOps_op rfl (op_cmp rfl rfl rfl rfl ?_)
      refine wOps_op rfl (op_pick rfl rfl rfl ?_)
      refine wOps_op rfl (op_move rfl rfl ?_)
      refine wOps_case (fun h17 => ?_) (fun h17 => ?_)
      ·
        have w40f := decide_eq_false (by rw [encVs_length] at h17; simp at h17; omega : ¬ w.length ≤ 40)
        refine wOps_skip rfl ?_
        refine wOps_skip rfl ?_
        refine wOps_skip rfl ?_
        refine wOps_skip rfl ?_
        refine wOps_op rfl (op_pick rfl rfl rfl ?_)
        refine wOps_nil ?_
        refine mwp_cond_t rfl (rfl) ?_
        refine mwp_seq ?_
        refine mwp_region rfl ?_
        refine wOps_op rfl (op_assign rfl rfl ?_)
        refine wOps_nil ?_
        refine mwp_ret ?_
        exact ret_tmp (.inr rfl) Try.results22 rfl (.of_eq (by rw [isVF_mk 7]; congr 1; symm; first | (rw [show bareF 7 _ = false by simpa using h11]; rfl) | (rw [w40f]; simp; done) | (rw [c40f]; simp; done))) (.bool _) ⟨rfl, rfl⟩
      ·
        have w40t := decide_eq_true (by rw [encVs_length] at h17; simp at h17; omega : w.length ≤ 40)
        refine wOps_op rfl (op_fieldAddr_ref rfl rfl fo30_3 ?_)
        refine wOps_op rfl (op_load' rfl rfl rfl ta27 rfl ?_)
        refine wOps_op rfl (op_len_lst rfl Try.underlying27 rfl ?_)
        refine wOps_op rfl (op_cmp rfl rfl rfl rfl ?_)
        refine wOps_op rfl (op_pick rfl rfl rfl ?_)
        refine wOps_nil ?_
        refine mwp_cond_split rfl (fun h22 => ?_) (fun h22 => ?_)
        · -- yes
          have c40f := decide_eq_false (by rw [List.length_map] at h22; simp at h22; omega : ¬ c.length ≤ 40)
          refine mwp_seq ?_
          refine mwp_region rfl ?_
          refine wOps_op rfl (op_assign rfl rfl ?_)
          refine wOps_nil ?_
          refine mwp_ret ?_
          exact ret_tmp (.inr rfl) Try.results22 rfl (.of_eq (by rw [isVF_mk 7]; congr 1; symm; first | (rw [show bareF 7 _ = false by simpa using h11]; rfl) | (rw [w40f]; simp; done) | (rw [c40f]; simp; done))) (.bool _) ⟨rfl, rfl⟩
        · -- no
          have c40t := decide_eq_true (by rw [List.length_map] at h22; simp at h22; omega : c.length ≤ 40)
          refine mwp_skip ?_
          refine mwp_seq ?_
          refine mwp_region rfl ?_
          refine wOps_op rfl (op_makeFunc rfl rfl rfl ?_)
          refine wOps_op rfl (op_alloc' rfl zm55 rfl rfl ?_)
          refine wOps_op rfl (op_store' rfl rfl rfl rfl sz55 rfl rfl (Nat.le_of_ble_eq_true rfl) rfl ?_)
          refine wOps_nil ?_
          refine mwp_seq ?_
          refine mwp_seq ?_
          refine mwp_region rfl ?_
          refine wOps_op rfl (op_fieldAddr_ref rfl rfl fo24_0 ?_)
          refine wOps_op rfl (op_load' rfl rfl rfl ta3 rfl ?_)
          refine wOps_nil ?_
          refine mwp_block ?_
          refine mwp_seq ?_
          refine mwp_region rfl ?_
          refine wOps_op rfl (op_cmp rfl rfl rfl rfl ?_)
          refine wOps_op rfl (op_assign rfl rfl ?_)
          refine wOps_nil ?_
          refine mwp_cond_f rfl (rfl) ?_
          refine mwp_seq ?_
          refine mwp_region rfl ?_
          refine wOps_op rfl (op_cmp rfl rfl rfl rfl ?_)
          refine wOps_op rfl (op_assign rfl rfl ?_)
          refine wOps_nil ?_
          refine mwp_cond_f rfl (rfl) ?_
          refine mwp_seq ?_
          refine mwp_region rfl ?_
          refine wOps_op rfl (op_cmp rfl rfl rfl rfl ?_)
          refine wOps_op rfl (op_assign rfl rfl ?_)
          refine wOps_nil ?_
          refine mwp_cond_f rfl (rfl) ?_
          refine mwp_seq ?_
          refine mwp_region rfl ?_
          refine wOps_op rfl (op_cmp rfl rfl rfl rfl ?_)
          refine wOps_op rfl (op_assign rfl rfl ?_)
          refine wOps_nil ?_
          refine mwp_cond_f rfl (rfl) ?_
          refine mwp_seq ?_
          refine mwp_region rfl ?_
          refine wOps_op rfl (op_cmp rfl rfl rfl rfl ?_)
          refine wOps_op rfl (op_assign rfl rfl ?_)
          refine wOps_nil ?_
          refine mwp_cond_f rfl (rfl) ?_
          refine mwp_seq ?_
          refine mwp_region rfl ?_
          refine wOps_op rfl (op_cmp rfl rfl rfl rfl ?_)
          refine wOps_op rfl (op_assign rfl rfl ?_)
          refine wOps_nil ?_
          refine mwp_cond_f rfl (rfl) ?_
          refine mwp_seq ?_
          refine mwp_region rfl ?_
          refine wOps_op rfl (op_cmp rfl rfl rfl rfl ?_)
          refine wOps_op rfl (op_assign rfl rfl ?_)
          refine wOps_nil ?_
          refine mwp_cond_t rfl (rfl) ?_
          refine mwp_seq ?_
          refine mwp_region rfl ?_
          refine wOps_op rfl (op_fieldAddr_ref rfl rfl fo30_3 ?_)
          refine wOps_op rfl (op_load' rfl rfl rfl ta27 rfl ?_)
          refine wOps_op rfl (op_len_lst rfl Try.underlying27 rfl ?_)
          refine wOps_op rfl (op_cmp rfl rfl rfl rfl ?_)
          refine wOps_op rfl (op_move rfl rfl ?_)
          refine wOps_case (fun h97 => ?_) (fun h97 => ?_)
          ·
            refine wOps_skip rfl ?_
            refine wOps_skip rfl ?_
            refine wOps_skip rfl ?_
            refine wOps_skip rfl ?_
            refine wOps_skip rfl ?_
            refine wOps_skip rfl ?_
            refine wOps_skip rfl ?_
            refine wOps_skip rfl ?_
            refine wOps_skip rfl ?_
            refine wOps_skip rfl ?_
            refine wOps_skip rfl ?_
            refine wOps_skip rfl ?_
            refine wOps_skip rfl ?_
            refine wOps_skip rfl ?_
            refine wOps_skip rfl ?_
            refine wOps_skip rfl ?_
            refine wOps_skip rfl ?_
            refine wOps_skip rfl ?_
            refine wOps_skip rfl ?_
            refine wOps_op rfl (op_pick rfl rfl rfl ?_)
            refine wOps_op rfl (op_assign rfl rfl ?_)
            refine wOps_nil ?_
            refine mwp_ret ?_
            exact ret_tmp (.inr rfl) Try.results22 rfl (.of_eq (by rw [isVF_mk 7]; rw [show bareF 7 _ = true by simpa using h11, w40t, c40t]; simp only [Bool.true_and, isVL, List.headD_cons, List.tail_cons]; first | (congr 1; symm; rw [if_neg (by decide), if_neg (by decide), if_neg (by decide), if_neg (by decide), if_neg (by decide), if_neg (by decide), if_pos True.intro]; exact hm2) | (congr 1; rw [Bool.eq_iff_iff]; simp_all))) (.bool _) ⟨rfl, rfl⟩
          ·
            have hc0 : ¬ c = [] := by simpa using h97
            refine wOps_op rfl (op_fieldAddr_ref rfl rfl fo30_3 ?_)
            refine wOps_op rfl (op_load' rfl rfl rfl ta27 rfl ?_)
            refine wOps_op rfl (op_len_lst rfl Try.underlying27 rfl ?_)
            refine wOps_op rfl (op_cmp rfl rfl rfl rfl ?_)
            refine wOps_op rfl (op_move rfl rfl ?_)
            refine wOps_case (fun h102 => ?_) (fun h102 => ?_)
            ·
              obtain ⟨c0, rfl⟩ := one_of (by rw [List.length_map] at h102; simp at h102; omega : c.length = 1)
              refine wOps_op rfl (op_fieldAddr_ref rfl rfl fo30_3 ?_)
              refine wOps_op rfl (op_load' rfl rfl rfl ta27 rfl ?_)
              refine wOps_op rfl (op_indexAddr rfl Try.underlying27 sz40 (by decide) rfl rfl rfl (show _ = some (encC c0) from rfl) ?_)
              refine wOps_op rfl (op_load_sptr rfl rfl ta40 rfl ?_)
              refine wOps_op rfl (op_len_lst rfl Try.underlying40 rfl ?_)
              refine wOps_op rfl (op_cmp rfl rfl rfl rfl ?_)
              refine wOps_op rfl (op_pick rfl rfl rfl ?_)
              refine wOps_op rfl (op_move rfl rfl ?_)
              refine wOps_case (fun h110 => ?_) (fun h110 => ?_)
              ·
                refine wOps_op rfl (op_fieldAddr_ref rfl rfl fo30_3 ?_)
                refine wOps_op rfl (op_load' rfl rfl rfl ta27 rfl ?_)
                refine wOps_op rfl (op_indexAddr rfl Try.underlying27 sz40 (by decide) rfl rfl rfl (show _ = some (encC c0) from rfl) ?_)
                refine wOps_op rfl (op_load_sptr rfl rfl ta40 rfl ?_)
                refine wOps_op rfl (op_call rfl rfl rfl co40 ((clkIs_spec c0 _).mono ?_))
                rintro _ _ ⟨rfl, rfl⟩
                refine wOps_op rfl (op_pick rfl rfl rfl ?_)
                refine wOps_op rfl (op_pick rfl rfl rfl ?_)
                refine wOps_op rfl (op_assign rfl rfl ?_)
                refine wOps_nil ?_
                refine mwp_ret ?_
                exact ret_tmp (.inr rfl) Try.results22 rfl (.of_eq (by rw [isVF_mk 7]; rw [show bareF 7 _ = true by simpa using h11, w40t, c40t]; simp only [Bool.true_and, isVL, List.headD_cons, List.tail_cons]; first | (congr 1; symm; rw [if_neg (by decide), if_neg (by decide), if_neg (by decide), if_neg (by decide), if_neg (by decide), if_neg (by decide), if_pos True.intro]; exact hm2) | (congr 1; rw [Bool.eq_iff_iff]; simp_all))) (.bool _) ⟨rfl, rfl⟩
              ·
                refine wOps_skip rfl ?_
                refine wOps_skip rfl ?_
                refine wOps_skip rfl ?_
                refine wOps_skip rfl ?_
                refine wOps_skip rfl ?_
                refine wOps_op rfl (op_pick rfl rfl rfl ?_)
                refine wOps_op rfl (op_pick rfl rfl rfl ?_)
                refine wOps_op rfl (op_assign rfl rfl ?_)
                refine wOps_nil ?_
                refine mwp_ret ?_
                exact ret_tmp (.inr rfl) Try.results22 rfl (.of_eq (by rw [isVF_mk 7]; rw [show bareF 7 _ = true by simpa using h11, w40t, c40t]; simp only [Bool.true_and, isVL, List.headD_cons, List.tail_cons]; first | (congr 1; symm; rw [if_neg (by decide), if_neg (by decide), if_neg (by decide), if_neg (by decide), if_neg (by decide), if_neg (by decide), if_pos True.intro]; exact hm2) | (congr 1; rw [Bool.eq_iff_iff]; simp_all))) (.bool _) ⟨rfl, rfl⟩
            ·
              have hm2 := match1_no hc0 (by rw [List.length_map] at h102; simp at h102; omega : c.length ≠ 1)
              refine wOps_skip rfl ?_
              refine wOps_skip rfl ?_
              refine wOps_skip rfl ?_
              refine wOps_skip rfl ?_
              refine wOps_skip rfl ?_
              refine wOps_skip rfl ?_
              refine wOps_op rfl (op_pick rfl rfl rfl ?_)
              refine wOps_op rfl (op_move rfl rfl ?_)
              refine wOps_skip rfl ?_
              refine wOps_skip rfl ?_
              refine wOps_skip rfl ?_
              refine wOps_skip rfl ?_
              refine wOps_skip rfl ?_
              refine wOps_op rfl (op_pick rfl rfl rfl ?_)
              refine wOps_op rfl (op_pick rfl rfl rfl ?_)
              refine wOps_op rfl (op_assign rfl rfl ?_)
              refine wOps_nil ?_
              refine mwp_ret ?_
              exact ret_tmp (.inr rfl) Try.results22 rfl (.of_eq (by rw [isVF_mk 7]; rw [show bareF 7 _ = true by simpa using h11, w40t, c40t]; simp only [Bool.true_and, isVL, List.headD_cons, List.tail_cons]; first | (congr 1; symm; rw [if_neg (by decide), if_neg (by decide), if_neg (by decide), if_neg (by decide), if_neg (by decide), if_neg (by decide), if_pos True.intro]; exact hm2) | (congr 1; rw [Bool.eq_iff_iff]; simp_all))) (.bool _) ⟨rfl, rfl⟩
  ·
    obtain ⟨⟨k1, i1⟩, rfl⟩ := one_ins hd.1 (by decide)
    have ih1 := ih (.mk k1 i1) (hd.2 _ (by simp))
    refine mcalls_body Try.func22 rfl Try.ntmps22 (Nat.le_of_ble_eq_true rfl) ?_
    refine mwp_seq ?_
    refine mwp_region rfl ?_
    refine wOps_op rfl (op_box' rfl rfl rfl rfl ?_)
    refine wOps_op rfl (op_box' rfl rfl rfl rfl ?_)
    refine wOps_op rfl (op_assign rfl rfl ?_)
    refine wOps_nil ?_
    refine mwp_seq ?_
    refine mwp_seq ?_
    refine mwp_region rfl ?_
    refine wOps_op rfl (op_fieldAddr_ref rfl rfl fo24_0 ?_)
    refine wOps_op rfl (op_load' rfl rfl rfl ta3 rfl ?_)
    refine wOps_op rfl (op_load' rfl rfl rfl ta30 rfl ?_)
    refine wOps_op rfl (op_call rfl rfl rfl co34 ((bare_spec 8 (by omega) n m s c w _).mono ?_))
    rintro _ _ ⟨rfl, rfl⟩
    refine wOps_op rfl (op_not rfl rfl ?_)
    refine wOps_op rfl (op_move rfl rfl ?_)
    refine wOps_case (fun h11 => ?_) (fun h11 => ?_)
    ·
      refine wOps_skip rfl ?_
      refine wOps_skip rfl ?_
      refine wOps_skip rfl ?_
      refine wOps_skip rfl ?_
      refine wOps_op rfl (op_pick rfl rfl rfl ?_)
      refine wOps_op rfl (op_move rfl rfl ?_)
      refine wOps_skip rfl ?_
      refine wOps_skip rfl ?_
      refine wOps_skip rfl ?_
      refine wOps_skip rfl ?_
      refine wOps_op rfl (op_pick rfl rfl rfl ?_)
      refine wOps_nil ?_
      refine mwp_cond_t rfl (rfl) ?_
      refine mwp_seq ?_
      refine mwp_region rfl ?_
      refine wOps_op rfl (op_assign rfl rfl ?_)
      refine wOps_nil ?_
      refine mwp_ret ?_
      exact ret_tmp (.inr rfl) Try.results22 rfl (.of_eq (by rw [isVF_mk 8]; congr 1; symm; first | (rw [show bareF 8 _ = false by simpa using h11]; rfl) | (rw [w40f]; simp; done) | (rw [c40f]; simp; done))) (.bool _) ⟨rfl, rfl⟩
    ·
      refine wOps_op rfl (op_fieldAddr_ref rfl rfl fo30_4 ?_)
      refine wOps_op rfl (op_load' rfl rfl rfl ta28 rfl ?_)
      refine wOps_op rfl (op_len_lst rfl Try.underlying28 rfl ?_)
      refine wOps_op rfl (op_cmp rfl rfl rfl rfl ?_)
      refine wOps_op rfl (op_pick rfl rfl rfl ?_)
      refine wOps_op rfl (op_move rfl rfl ?_)
      refine wOps_case (fun h17 => ?_) (fun h17 => ?_)
      ·
        have w40f := decide_eq_false (by rw [encVs_length] at h17; simp at h17; omega : ¬ w.length ≤ 40)
        refine wOps_skip rfl ?_
        refine wOps_skip rfl ?_
        refine wOps_skip rfl ?_
        refine wOps_skip rfl ?_
        refine wOps_op rfl (op_pick rfl rfl rfl ?_)
        refine wOps_nil ?_
        refine mwp_cond_t rfl (rfl) ?_
        refine mwp_seq ?_
        refine mwp_region rfl ?_
        refine wOps_op rfl (op_assign rfl rfl ?_)
        refine wOps_nil ?_
        refine mwp_ret ?_
        exact ret_tmp (.inr rfl) Try.results22 rfl (.of_eq (by rw [isVF_mk 8]; congr 1; symm; first | (rw [show bareF 8 _ = false by simpa using h11]; rfl) | (rw [w40f]; simp; done) | (rw [c40f]; simp; done))) (.bool _) ⟨rfl, rfl⟩
      ·
        have w40t := decide_eq_true (by rw [encVs_length] at h17; simp at h17; omega : w.length ≤ 40)
        refine wOps_op rfl (op_fieldAddr_ref rfl rfl fo30_3 ?_)
        refine wOps_op rfl (op_load' rfl rfl rfl ta27 rfl ?_)
        refine wOps_op rfl (op_len_lst rfl Try.underlying27 rfl ?_)
        refine wOps_op rfl (op_cmp rfl rfl rfl rfl ?_)
        refine wOps_op rfl (op_pick rfl rfl rfl ?_)
        refine wOps_nil ?_
        refine mwp_cond_split rfl (fun h22 => ?_) (fun h22 => ?_)
        · -- yes
          have c40f := decide_eq_false (by rw [List.length_map] at h22; simp at h22; omega : ¬ c.length ≤ 40)
          refine mwp_seq ?_
          refine mwp_region rfl ?_
          refine wOps_op rfl (op_assign rfl rfl ?_)
          refine wOps_nil ?_
          refine mwp_ret ?_
          exact ret_tmp (.inr rfl) Try.results22 rfl (.of_eq (by rw [isVF_mk 8]; congr 1; symm; first | (rw [show bareF 8 _ = false by simpa using h11]; rfl) | (rw [w40f]; simp; done) | (rw [c40f]; simp; done))) (.bool _) ⟨rfl, rfl⟩
        · -- no
          have c40t := decide_eq_true (by rw [List.length_map] at h22; simp at h22; omega : c.length ≤ 40)
          refine mwp_skip ?_
          refine mwp_seq ?_
          refine mwp_region rfl ?_
          refine wOps_op rfl (op_makeFunc rfl rfl rfl ?_)
          refine wOps_op rfl (op_alloc' rfl zm55 rfl rfl ?_)
          refine wOps_op rfl (op_store' rfl rfl rfl rfl sz55 rfl rfl (Nat.le_of_ble_eq_true rfl) rfl ?_)
          refine wOps_nil ?_
          refine mwp_seq ?_
          refine mwp_seq ?_
          refine mwp_region rfl ?_
          refine wOps_op rfl (op_fieldAddr_ref rfl rfl fo24_0 ?_)
          refine wOps_op rfl (op_load' rfl rfl rfl ta3 rfl ?_)
          refine wOps_nil ?_
          refine mwp_block ?_
          refine mwp_seq ?_
          refine mwp_region rfl ?_
          refine wOps_op rfl (op_cmp rfl rfl rfl rfl ?_)
          refine wOps_op rfl (op_assign rfl rfl ?_)
          refine wOps_nil ?_
          refine mwp_cond_f rfl (rfl) ?_
          refine mwp_seq ?_
          refine mwp_region rfl ?_
          refine wOps_op rfl (op_cmp rfl rfl rfl rfl ?_)
          refine wOps_op rfl (op_assign rfl rfl ?_)
          refine wOps_nil ?_
          refine mwp_cond_f rfl (rfl) ?_
          refine mwp_seq ?_
          refine mwp_region rfl ?_
          refine wOps_op rfl (op_cmp rfl rfl rfl rfl ?_)
          refine wOps_op rfl (op_assign rfl rfl ?_)
          refine wOps_nil ?_
          refine mwp_cond_f rfl (rfl) ?_
          refine mwp_seq ?_
          refine mwp_region rfl ?_
          refine wOps_op rfl (op_cmp rfl rfl rfl rfl ?_)
          refine wOps_op rfl (op_assign rfl rfl ?_)
          refine wOps_nil ?_
          refine mwp_cond_f rfl (rfl) ?_
          refine mwp_seq ?_
          refine mwp_region rfl ?_
          refine wOps_op rfl (op_cmp rfl rfl rfl rfl ?_)
          refine wOps_op rfl (op_assign rfl rfl ?_)
          refine wOps_nil ?_
          refine mwp_cond_f rfl (rfl) ?_
          refine mwp_seq ?_
          refine mwp_region rfl ?_
          refine wOps_op rfl (op_cmp rfl rfl rfl rfl ?_)
          refine wOps_op rfl (op_assign rfl rfl ?_)
          refine wOps_nil ?_
          refine mwp_cond_f rfl (rfl) ?_
          refine mwp_seq ?_
          refine mwp_region rfl ?_
          refine wOps_op rfl (op_cmp rfl rfl rfl rfl ?_)
          refine wOps_op rfl (op_assign rfl rfl ?_)
          refine wOps_nil ?_
          refine mwp_cond_f rfl (rfl) ?_
          refine mwp_skip ?_
          refine mwp_seq ?_
          refine mwp_region rfl ?_
          refine wOps_op rfl (op_fieldAddr_ref rfl rfl fo30_3 ?_)
          refine wOps_op rfl (op_load' rfl rfl rfl ta27 rfl ?_)
          refine wOps_op rfl (op_len_lst rfl Try.underlying27 rfl ?_)
          refine wOps_op rfl (op_fieldAddr_ref rfl rfl fo30_4 ?_)
          refine wOps_op rfl (op_load' rfl rfl rfl ta28 rfl ?_)
          refine wOps_op rfl (op_len_lst rfl Try.underlying28 rfl ?_)
          refine wOps_op rfl (op_cmp rfl rfl rfl rfl ?_)
          refine wOps_op rfl (op_move rfl rfl ?_)
          refine wOps_case (fun h125 => ?_) (fun h125 => ?_)
          ·
            have hsl : c.length = w.length := by rw [List.length_map, encVs_length] at h125; simp at h125; omega
            refine wOps_op rfl (op_fieldAddr_ref rfl rfl fo30_3 ?_)
            refine wOps_op rfl (op_load' rfl rfl rfl ta27 rfl ?_)
            refine wOps_op rfl (op_call rfl rfl rfl co41 ((isCause_spec c _).mono ?_))
            rintro _ _ ⟨rfl, rfl⟩
            refine wOps_op rfl (op_pick rfl rfl rfl ?_)
            refine wOps_op rfl (op_move rfl rfl ?_)
            refine wOps_case (fun h130 => ?_) (fun h130 => ?_)
            ·
              refine wOps_op rfl (op_fieldAddr_ref rfl rfl fo30_4 ?_)
              refine wOps_op rfl (op_load' rfl rfl rfl ta28 rfl ?_)
              refine wOps_op rfl (op_makeFunc rfl rfl rfl ?_)
              refine wOps_op rfl (op_call rfl rfl rfl co37 ((vContains_spec _ w (fun x => !isVF (.mk k1 i1) x) _ [] [.ref (S.length + 2) 0] co42 (fun x hx X => is3v_spec 8 k1 i1 [] (isVF (.mk k1 i1)) ih1 x (hvs x hx) _ _ _ (get_mid_ (k := 2) rfl) (get_mid_ (k := 0) rfl))).mono ?_))
              rintro _ _ ⟨rfl, rfl⟩
              refine wOps_op rfl (op_not rfl rfl ?_)
              refine wOps_op rfl (op_pick rfl rfl rfl ?_)
              refine wOps_op rfl (op_assign rfl rfl ?_)
              refine wOps_nil ?_
              refine mwp_ret ?_
              exact ret_tmp (.inr rfl) Try.results22 rfl (.of_eq (by rw [isVF_mk 8]; rw [show bareF 8 _ = true by simpa using h11, w40t, c40t]; simp only [Bool.true_and, isVL, List.headD_cons, List.tail_cons]; congr 1; rw [Bool.eq_iff_iff]; simp_all [encVs_length, any_all'])) (.bool _) ⟨rfl, rfl⟩
            ·
              refine wOps_skip rfl ?_
              refine wOps_skip rfl ?_
              refine wOps_skip rfl ?_
              refine wOps_skip rfl ?_
              refine wOps_skip rfl ?_
              refine wOps_op rfl (op_pick rfl rfl rfl ?_)
              refine wOps_op rfl (op_assign rfl rfl ?_)
              refine wOps_nil ?_
              refine mwp_ret ?_
              exact ret_tmp (.inr rfl) Try.results22 rfl (.of_eq (by rw [isVF_mk 8]; rw [show bareF 8 _ = true by simpa using h11, w40t, c40t]; simp only [Bool.true_and, isVL, List.headD_cons, List.tail_cons]; congr 1; rw [Bool.eq_iff_iff]; simp_all [encVs_length, any_all'])) (.bool _) ⟨rfl, rfl⟩
          ·
            have hsl : ¬ c.length = w.length := by rw [List.length_map, encVs_length] at h125; simp at h125; omega
            refine wOps_skip rfl ?_
            refine wOps_skip rfl ?_
            refine wOps_skip rfl ?_
            refine wOps_op rfl (op_pick rfl rfl rfl ?_)
            refine wOps_op rfl (op_move rfl rfl ?_)
            refine wOps_skip rfl ?_
            refine wOps_skip rfl ?_
            refine wOps_skip rfl ?_
            refine wOps_skip rfl ?_
            refine wOps_skip rfl ?_
            refine wOps_op rfl (op_pick rfl rfl rfl ?_)
            refine wOps_op rfl (op_assign rfl rfl ?_)
            refine wOps_nil ?_
            refine mwp_ret ?_
            exact ret_tmp (.inr rfl) Try.results22 rfl (.of_eq (by rw [isVF_mk 8]; rw [show bareF 8 _ = true by simpa using h11, w40t, c40t]; simp only [Bool.true_and, isVL, List.headD_cons, List.tail_cons]; congr 1; rw [Bool.eq_iff_iff]; simp_all [encVs_length, any_all'])) (.bool _) ⟨rfl, rfl⟩
end Go.Proofs.Ytihpnfpdocnniaa
