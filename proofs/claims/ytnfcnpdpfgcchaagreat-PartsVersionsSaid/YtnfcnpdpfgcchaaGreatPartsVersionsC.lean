/-
  Texts on which the proof of PartsVersions leans: part 3.
-/
import Derived.Test.YtnfcnpdpfgcchaaGreatPartsVersionsB
section
set_option linter.unusedVariables false
set_option linter.unusedSimpArgs false
set_option maxRecDepth 20000
set_option maxHeartbeats 400000
namespace Go.Proofs.YtnfcnpdpfgcchaaGreat
open Go Go.MV
theorem one_of {α : Type} {s : List α} (h : s.length = 1) : ∃ t, s = [t] := by
 match s, h with
 | [t], _ => exact ⟨t, rfl⟩
theorem two_of' {α : Type} {s : List α} (h : s.length = 2) : ∃ t u, s = [t, u] := by
 match s, h with
 | [t, u], _ => exact ⟨t, u, rfl⟩
theorem last_no {n m : Int} {s : List Bs} (h : ¬ s = []) (h1 : ¬ s.length = 1) : isLastF n m s = false := by
 match s, h, h1 with
 | [], h, _ => exact absurd rfl h
 | [t], _, h => exact absurd rfl h
 | _ :: _ :: _, _, _ => rfl
theorem one_ins {k : Int} {ins : List Sch} (h : partsF k = (ins.length : Int)) (hk : partsF k = 1) : ∃ t, ins = [t] := one_of (by omega)
theorem isB_mk {k : Int} {ins : List Sch} {fs : List (Val → Bool)} {n m : Int} {s : List Bs} {c : List (List Tk)} {w : List Val} : isB k ins fs (.mk n m s c w) = (bareF k (.mk n m s c w) && decide (w.length ≤ 40) && decide (c.length ≤ 40) &&
 (if k = 1 then true else if k = 2 then decide (n ≤ 1) else if k = 3 then isRowF s
  else if k = 4 then isRowF s && decide (s.length = w.length) && w.all (fun x => fs.headD (fun _ => false) x && !noneF (ins.headD default) x)
  else if k = 5 then (match w with | [x, y] => fs.headD (fun _ => false) x && fs.tail.headD (fun _ => false) y | _ => false)
  else if k = 6 then isLastF n m s
  else if k = 7 then (match c with | [] => true | [c] => decide (0 < c.length) && isClockF c | _ => false)
  else decide (c.length = w.length) && isCauseF c && w.all (fs.headD (fun _ => false)))) := rfl
theorem isVF_mk {ins : List Sch} {n m : Int} {s : List Bs} {c : List (List Tk)} {w : List Val} (k : Int) : isVF (.mk k ins) (.mk n m s c w) = (bareF k (.mk n m s c w) && decide (w.length ≤ 40) && decide (c.length ≤ 40) &&
 (if k = 1 then true else if k = 2 then decide (n ≤ 1) else if k = 3 then isRowF s
  else if k = 4 then isRowF s && decide (s.length = w.length) && w.all (fun x => (isVL ins).headD (fun _ => false) x && !noneF (ins.headD default) x)
  else if k = 5 then (match w with | [x, y] => (isVL ins).headD (fun _ => false) x && (isVL ins).tail.headD (fun _ => false) y | _ => false)
  else if k = 6 then isLastF n m s
  else if k = 7 then (match c with | [] => true | [c] => decide (0 < c.length) && isClockF c | _ => false)
  else decide (c.length = w.length) && isCauseF c && w.all ((isVL ins).headD (fun _ => false)))) := by rw [isVF, isB_mk]
theorem match2_no {f g : Val → Bool} {w : List Val} : w.length ≠ 2 → (match w with | [x, y] => f x && g y | _ => false) = false := by
 intro h
 match w, h with
 | [], _ => rfl
 | [_], _ => rfl
 | [_, _], h => exact absurd rfl h
 | _ :: _ :: _ :: _, _ => rfl
theorem match1_no {c : List (List Tk)} : ¬ c = [] → c.length ≠ 1 → (match c with | [] => true | [c] => decide (0 < c.length) && isClockF c | _ => false) = false := by
 intro h0 h
 match c, h0, h with
 | [], h, _ => exact absurd rfl h
 | [_], _, h => exact absurd rfl h
 | _ :: _ :: _, _, _ => rfl
theorem k8_of {k : Int} {n : Nat} (h : partsF k = (n : Int)) : k = 1 ∨ k = 2 ∨ k = 3 ∨ k = 4 ∨ k = 5 ∨ k = 6 ∨ k = 7 ∨ k = 8 := by
 unfold partsF at h
 split at h
 ·omega
 ·split at h
  ·omega
  ·split at h <;> omega
theorem short_any (l : List Bs) : (!(l.any fun s => decide (16 < s.length))) = shortF l := by
 unfold shortF
 rw [Bool.eq_iff_iff]
 simp
theorem any_all {l : List Val} {f g : Val → Bool} : (!(l.any fun x => !f x || g x)) = l.all fun x => f x && !g x := by
 rw [Bool.eq_iff_iff]
 simp
theorem any_all' {l : List Val} {f : Val → Bool} : (!(l.any fun x => !f x)) = l.all f := by
 rw [Bool.eq_iff_iff]
 simp
theorem xIndex_spec (S : MS) (l : List Bs) (p : Bs → Bool) (kf : FuncId) (first caps : List MV) (hco : CallOk Tryz.prog kf) (hp : ∀ x ∈ l, ∀ X : MS, MCalls Tryz.prog kf (first ++ [encX x] ++ caps) (S ++ X) fun v σ' => v = .bool (p x) ∧ σ' = S ++ X) : MCalls Tryz.prog 113 [.lst none 1 (l.map encX), .fn (.func kf) first caps] S fun v σ' => v = .int .i64 (findGo p 0 l) ∧ σ' = S := by
 refine mcalls_body Tryz.func113 rfl Tryz.ntmps113 (Nat.le_of_ble_eq_true rfl) ?_
 refine mwp_len (t := 0) rfl fun hlen => ?_
 rw [List.length_map] at hlen
 refine mwp_seq <| qR rfl <| qA rfl rfl rfl <| qN <| mwp_seq <| mwp_seq <| qR rfl <| qM rfl rfl rfl <| qE rfl rfl Tryz.underlying26 rfl <| qM rfl rfl rfl <| qN <| mwp_block ?_
 refine mwp_loopK (α := Nat) [(0, _), (1, _), (7, _)] (fun i => [(8, .int .i64 (i : Int))]) (fun i => []) (fun i => i ≤ l.length ∧ findGo p i (l.drop i) = findGo p 0 l) (fun i => l.length - i) (0) (.keep rfl (.keep rfl (.keep rfl (.nil)))) (.keep rfl (.nil)) (⟨by omega, rfl⟩) (rfl) ?_
 rintro i ⟨hi, he⟩
 refine mwp_seq <| qR rfl <| qC rfl rfl rfl rfl rfl <| qN <| mwp_seq ?_
 refine mwp_cond_split rfl (fun h9 => ?_) (fun h9 => ?_)
 ·
  rw [List.length_map] at h9
  have hlt : i < l.length := by simpa using h9
  obtain ⟨x, hs⟩ : ∃ x, l[i]? = some x := ⟨_, List.getElem?_eq_getElem hlt⟩
  refine mwp_skip <| mwp_seq <| mwp_block <| mwp_seq <| qR rfl <| qM rfl rfl rfl <| qA rfl rfl rfl <| qN <| mwp_seq <| qR rfl <| qM rfl rfl rfl <| qM rfl rfl rfl <| qM rfl rfl rfl <| qO rfl <| op_indexAddr rfl Tryz.underlying26 sz9 (by decide) rfl rfl rfl (get_map hs) ?_
  refine qO rfl <| op_load_sptr rfl rfl ta9 rfl ?_
  refine wOps_op rfl (op_call rfl rfl rfl hco ((hp _ (List.mem_of_getElem? hs) _).mono ?_))
  rintro _ _ ⟨rfl, rfl⟩
  refine qN ?_
  refine mwp_cond_split rfl (fun h16 => ?_) (fun h16 => ?_)
  ·
   refine mwp_seq <| qR rfl <| qM rfl rfl rfl <| qA rfl rfl rfl <| qN <| mwp_ret ?_
   exact ret_tmp (.inr rfl) Tryz.results113 rfl (.of_eq (by rw [← he, find_at hs, h16]; rfl)) (.int _ _) ⟨rfl, rfl⟩
  ·
   refine mwp_skip <| qR rfl <| qO rfl <| op_arith rfl rfl rfl rfl <| qM rfl rfl rfl <| qN ?_
   refine ⟨i + 1, by omega, ⟨by omega, by rw [← he, find_at hs, h16]; rfl⟩, rfl, (.keep rfl (.keep rfl (.keep rfl (.nil)))), (.eq rfl (int_succ hlt hlen) (.nil))⟩
 ·
  rw [List.length_map] at h9
  have hge : i = l.length := by simp at h9; omega
  refine mwp_exit <| mwp_seq <| qR rfl <| qA rfl rfl rfl <| qN <| mwp_ret ?_
  exact ret_tmp (.inr rfl) Tryz.results113 rfl (.of_eq (by rw [← he, hge, List.drop_length]; rfl)) (.int _ _) ⟨rfl, rfl⟩
theorem xContains_spec (S : MS) (l : List Bs) (p : Bs → Bool) (kf : FuncId) (first caps : List MV) (hco : CallOk Tryz.prog kf) (hp : ∀ x ∈ l, ∀ X : MS, MCalls Tryz.prog kf (first ++ [encX x] ++ caps) (S ++ X) fun v σ' => v = .bool (p x) ∧ σ' = S ++ X) : MCalls Tryz.prog 95 [.lst none 1 (l.map encX), .fn (.func kf) first caps] S fun v σ' => v = .bool (l.any p) ∧ σ' = S := by
 refine mcalls_body Tryz.func95 rfl Tryz.ntmps95 (Nat.le_of_ble_eq_true rfl) ?_
 refine mwp_seq <| qR rfl <| qA rfl rfl rfl <| qN <| mwp_seq <| qR rfl <| qM rfl rfl rfl <| qM rfl rfl rfl ?_
 refine wOps_op rfl (op_call rfl rfl rfl co113 ((xIndex_spec (S ++ []) l p kf first caps hco (by rw [List.append_nil]; exact hp)).mono ?_))
 rintro _ _ ⟨rfl, rfl⟩
 refine qC rfl rfl rfl rfl rfl <| qA rfl rfl rfl <| qN <| mwp_ret ?_
 exact ret_tmp (.inr rfl) Tryz.results95 rfl (.of_eq (by rw [find_any p 0 l])) (.bool _) ⟨rfl, rfl⟩
theorem vIndex_spec (S : MS) (l : List Val) (p : Val → Bool) (kf : FuncId) (first caps : List MV) (hco : CallOk Tryz.prog kf) (hp : ∀ x ∈ l, ∀ X : MS, MCalls Tryz.prog kf (first ++ [encV x] ++ caps) (S ++ X) fun v σ' => v = .bool (p x) ∧ σ' = S ++ X) : MCalls Tryz.prog 97 [.lst none 5 (encVs l), .fn (.func kf) first caps] S fun v σ' => v = .int .i64 (findGo p 0 l) ∧ σ' = S := by
 refine mcalls_body Tryz.func97 rfl Tryz.ntmps97 (Nat.le_of_ble_eq_true rfl) ?_
 refine mwp_len (t := 0) rfl fun hlen => ?_
 rw [encVs_length] at hlen
 refine mwp_seq <| qR rfl <| qA rfl rfl rfl <| qN <| mwp_seq <| mwp_seq <| qR rfl <| qM rfl rfl rfl <| qE rfl rfl Tryz.underlying28 rfl <| qM rfl rfl rfl <| qN <| mwp_block ?_
 refine mwp_loopK (α := Nat) [(0, _), (1, _), (7, _)] (fun i => [(8, .int .i64 (i : Int))]) (fun i => []) (fun i => i ≤ l.length ∧ findGo p i (l.drop i) = findGo p 0 l) (fun i => l.length - i) (0) (.keep rfl (.keep rfl (.keep rfl (.nil)))) (.keep rfl (.nil)) (⟨by omega, rfl⟩) (rfl) ?_
 rintro i ⟨hi, he⟩
 refine mwp_seq <| qR rfl <| qC rfl rfl rfl rfl rfl <| qN <| mwp_seq ?_
 refine mwp_cond_split rfl (fun h9 => ?_) (fun h9 => ?_)
 ·
  rw [encVs_length] at h9
  have hlt : i < l.length := by simpa using h9
  obtain ⟨x, hs⟩ : ∃ x, l[i]? = some x := ⟨_, List.getElem?_eq_getElem hlt⟩
  obtain ⟨n1, m1, s1, c1, w1⟩ := x
  refine mwp_skip <| mwp_seq <| mwp_block <| mwp_seq <| qR rfl <| qM rfl rfl rfl <| qA rfl rfl rfl <| qN <| mwp_seq <| qR rfl <| qM rfl rfl rfl <| qM rfl rfl rfl <| qM rfl rfl rfl <| qO rfl <| op_indexAddr rfl Tryz.underlying28 sz30 (by decide) rfl rfl rfl (encVs_get hs) ?_
  refine qO rfl <| op_load_sptr rfl rfl ta30 rfl ?_
  refine wOps_op rfl (op_call rfl rfl rfl hco ((hp _ (List.mem_of_getElem? hs) _).mono ?_))
  rintro _ _ ⟨rfl, rfl⟩
  refine qN ?_
  refine mwp_cond_split rfl (fun h16 => ?_) (fun h16 => ?_)
  ·
   refine mwp_seq <| qR rfl <| qM rfl rfl rfl <| qA rfl rfl rfl <| qN <| mwp_ret ?_
   exact ret_tmp (.inr rfl) Tryz.results97 rfl (.of_eq (by rw [← he, find_at hs, h16]; rfl)) (.int _ _) ⟨rfl, rfl⟩
  ·
   refine mwp_skip <| qR rfl <| qO rfl <| op_arith rfl rfl rfl rfl <| qM rfl rfl rfl <| qN ?_
   refine ⟨i + 1, by omega, ⟨by omega, by rw [← he, find_at hs, h16]; rfl⟩, rfl, (.keep rfl (.keep rfl (.keep rfl (.nil)))), (.eq rfl (int_succ hlt hlen) (.nil))⟩
 ·
  rw [encVs_length] at h9
  have hge : i = l.length := by simp at h9; omega
  refine mwp_exit <| mwp_seq <| qR rfl <| qA rfl rfl rfl <| qN <| mwp_ret ?_
  exact ret_tmp (.inr rfl) Tryz.results97 rfl (.of_eq (by rw [← he, hge, List.drop_length]; rfl)) (.int _ _) ⟨rfl, rfl⟩
theorem vContains_spec (S : MS) (l : List Val) (p : Val → Bool) (kf : FuncId) (first caps : List MV) (hco : CallOk Tryz.prog kf) (hp : ∀ x ∈ l, ∀ X : MS, MCalls Tryz.prog kf (first ++ [encV x] ++ caps) (S ++ X) fun v σ' => v = .bool (p x) ∧ σ' = S ++ X) : MCalls Tryz.prog 72 [.lst none 5 (encVs l), .fn (.func kf) first caps] S fun v σ' => v = .bool (l.any p) ∧ σ' = S := by
 refine mcalls_body Tryz.func72 rfl Tryz.ntmps72 (Nat.le_of_ble_eq_true rfl) ?_
 refine mwp_seq <| qR rfl <| qA rfl rfl rfl <| qN <| mwp_seq <| qR rfl <| qM rfl rfl rfl <| qM rfl rfl rfl ?_
 refine wOps_op rfl (op_call rfl rfl rfl co97 ((vIndex_spec (S ++ []) l p kf first caps hco (by rw [List.append_nil]; exact hp)).mono ?_))
 rintro _ _ ⟨rfl, rfl⟩
 refine qC rfl rfl rfl rfl rfl <| qA rfl rfl rfl <| qN <| mwp_ret ?_
 exact ret_tmp (.inr rfl) Tryz.results72 rfl (.of_eq (by rw [find_any p 0 l])) (.bool _) ⟨rfl, rfl⟩
theorem isRow1_spec (s : Bs) (S : MS) : MCalls Tryz.prog 96 [.str (bs s)] S fun v σ' => v = .bool (decide (16 < s.length)) ∧ σ' = S := by
 refine mcalls_body Tryz.func96 rfl Tryz.ntmps96 (Nat.le_of_ble_eq_true rfl) ?_
 refine mwp_seq <| qR rfl <| qA rfl rfl rfl <| qN <| mwp_seq <| qR rfl <| qM rfl rfl rfl <| qO rfl <| op_len_bs rfl Tryz.underlying9 rfl <| qC rfl rfl rfl rfl rfl <| qA rfl rfl rfl <| qN <| mwp_ret ?_
 exact ret_tmp (.inr rfl) Tryz.results96 rfl (.of_eq (by congr 1; rw [Bool.eq_iff_iff]; simp; omega)) (.bool _) ⟨rfl, rfl⟩
theorem isRow_spec (l : List Bs) (S : MS) : MCalls Tryz.prog 71 [.lst none 1 (l.map encX)] S fun v σ' => v = .bool (isRowF l) ∧ σ' = S := by
 refine mcalls_body Tryz.func71 rfl Tryz.ntmps71 (Nat.le_of_ble_eq_true rfl) ?_
 refine mwp_seq <| qR rfl <| qA rfl rfl rfl <| qN <| mwp_seq <| qR rfl <| qM rfl rfl rfl <| qE rfl rfl Tryz.underlying26 rfl <| qC rfl rfl rfl rfl rfl <| qM rfl rfl rfl ?_
 refine wOps_case (fun h6 => ?_) (fun h6 => ?_)
 ·
  refine qM rfl rfl rfl ?_
  refine wOps_op rfl (op_call rfl rfl rfl co94 ((rowsIs_spec l _).mono ?_))
  rintro _ _ ⟨rfl, rfl⟩
  refine qP rfl rfl rfl rfl <| qM rfl rfl rfl ?_
  refine wOps_case (fun h10 => ?_) (fun h10 => ?_)
  ·
   refine qM rfl rfl rfl ?_
   refine wOps_op rfl (op_call rfl rfl rfl co95 ((xContains_spec _ l (fun s => decide (16 < s.length)) _ [] [] co96 (fun x _ X => isRow1_spec x _)).mono ?_))
   rintro _ _ ⟨rfl, rfl⟩
   refine qO rfl <| op_not rfl rfl <| qP rfl rfl rfl rfl <| qA rfl rfl rfl <| qN <| mwp_ret ?_
   exact ret_tmp (.inr rfl) Tryz.results71 rfl (.of_eq (by congr 1; unfold isRowF; rw [← short_any, Bool.eq_iff_iff]; simp_all <;> omega)) (.bool _) ⟨rfl, rfl⟩
  ·
   refine qS rfl <| qS rfl <| qS rfl <| qP rfl rfl rfl rfl <| qA rfl rfl rfl <| qN <| mwp_ret ?_
   exact ret_tmp (.inr rfl) Tryz.results71 rfl (.of_eq (by congr 1; unfold isRowF; rw [← short_any, Bool.eq_iff_iff]; simp_all <;> omega)) (.bool _) ⟨rfl, rfl⟩
 ·
  refine qS rfl <| qS rfl <| qP rfl rfl rfl rfl <| qM rfl rfl rfl <| qS rfl <| qS rfl <| qS rfl <| qP rfl rfl rfl rfl <| qA rfl rfl rfl <| qN <| mwp_ret ?_
  exact ret_tmp (.inr rfl) Tryz.results71 rfl (.of_eq (by congr 1; unfold isRowF; rw [← short_any, Bool.eq_iff_iff]; simp_all <;> omega)) (.bool _) ⟨rfl, rfl⟩
theorem isLast_spec (n m : Int) (s : List Bs) (c : List (List Tk)) (w : List Val) (hn : 0 ≤ n) (hm : 0 ≤ m) (S : MS) : MCalls Tryz.prog 74 [encV (.mk n m s c w)] S fun v σ' => v = .bool (isLastF n m s) ∧ σ' = S := by
 refine mcalls_body Tryz.func74 rfl Tryz.ntmps74 (Nat.le_of_ble_eq_true rfl) ?_
 refine mwp_seq <| qR rfl <| qB rfl rfl rfl rfl rfl <| qA rfl rfl rfl <| qN <| mwp_seq <| mwp_seq <| qR rfl <| qF rfl rfl rfl fo30_2 <| qL rfl rfl rfl rfl ta26 rfl <| qE rfl rfl Tryz.underlying26 rfl <| qC rfl rfl rfl rfl rfl <| qN ?_
 refine mwp_cond_split rfl (fun h6 => ?_) (fun h6 => ?_)
 ·
  have hs0 : s = [] := by simpa using h6
  subst hs0
  refine mwp_seq <| qR rfl <| qF rfl rfl rfl fo30_0 <| qL rfl rfl rfl rfl ta25 rfl <| qC rfl rfl rfl rfl rfl <| qM rfl rfl rfl ?_
  refine wOps_case (fun h10 => ?_) (fun h10 => ?_)
  ·
   refine qF rfl rfl rfl fo30_1 <| qL rfl rfl rfl rfl ta25 rfl <| qC rfl rfl rfl rfl rfl <| qP rfl rfl rfl rfl <| qA rfl rfl rfl <| qN <| mwp_ret ?_
   exact ret_tmp (.inr rfl) Tryz.results74 rfl (.of_eq (by first | (rw [hF]; done) | (congr 1; rw [Bool.eq_iff_iff]; simp_all [isLastF]; done) | (congr 1; rw [Bool.eq_iff_iff]; simp_all [isLastF]; omega))) (.bool _) ⟨rfl, rfl⟩
  ·
   refine qS rfl <| qS rfl <| qS rfl <| qP rfl rfl rfl rfl <| qA rfl rfl rfl <| qN <| mwp_ret ?_
   exact ret_tmp (.inr rfl) Tryz.results74 rfl (.of_eq (by first | (rw [hF]; done) | (congr 1; rw [Bool.eq_iff_iff]; simp_all [isLastF]; done) | (congr 1; rw [Bool.eq_iff_iff]; simp_all [isLastF]; omega))) (.bool _) ⟨rfl, rfl⟩
 ·
  have hs0 : ¬ s = [] := by simpa using h6
  refine mwp_skip <| mwp_seq <| qR rfl <| qF rfl rfl rfl fo30_2 <| qL rfl rfl rfl rfl ta26 rfl <| qE rfl rfl Tryz.underlying26 rfl <| qC rfl rfl rfl rfl rfl <| qM rfl rfl rfl ?_
  refine wOps_case (fun h19 => ?_) (fun h19 => ?_)
  ·
   obtain ⟨t, rfl⟩ := one_of (by rw [List.length_map] at h19; simp at h19; omega : s.length = 1)
   refine qF rfl rfl rfl fo30_2 <| qL rfl rfl rfl rfl ta26 rfl <| qO rfl <| op_indexAddr rfl Tryz.underlying26 sz9 (by decide) rfl rfl rfl (show _ = some (encX t) from rfl) ?_
   refine qO rfl <| op_load_sptr rfl rfl ta9 rfl <| qO rfl <| op_len_bs rfl Tryz.underlying9 rfl <| qC rfl rfl rfl rfl rfl <| qP rfl rfl rfl rfl <| qM rfl rfl rfl ?_
   refine wOps_case (fun h27 => ?_) (fun h27 => ?_)
   ·
    have h27n : t.length ≤ 16 := by simp at h27; omega
    refine qF rfl rfl rfl fo30_0 <| qL rfl rfl rfl rfl ta25 rfl <| qC rfl rfl rfl rfl rfl <| qM rfl rfl rfl ?_
    refine wOps_case (fun h31 => ?_) (fun h31 => ?_)
    ·
     refine qS rfl <| qS rfl <| qS rfl <| qP rfl rfl rfl rfl <| qM rfl rfl rfl <| qS rfl <| qS rfl <| qS rfl <| qS rfl <| qS rfl <| qP rfl rfl rfl rfl <| qP rfl rfl rfl rfl <| qA rfl rfl rfl <| qN <| mwp_ret ?_
     exact ret_tmp (.inr rfl) Tryz.results74 rfl (.of_eq (by first | (rw [hF]; done) | (congr 1; rw [Bool.eq_iff_iff]; simp_all [isLastF]; done) | (congr 1; rw [Bool.eq_iff_iff]; simp_all [isLastF]; omega))) (.bool _) ⟨rfl, rfl⟩
    ·
     have hn0 : n = 0 := by simp at h31; omega
     subst hn0
     refine qF rfl rfl rfl fo30_1 <| qL rfl rfl rfl rfl ta25 rfl <| qC rfl rfl rfl rfl rfl <| qP rfl rfl rfl rfl <| qM rfl rfl rfl ?_
     refine wOps_case (fun h36 => ?_) (fun h36 => ?_)
     ·
      refine qS rfl <| qS rfl <| qS rfl <| qS rfl <| qS rfl <| qP rfl rfl rfl rfl <| qP rfl rfl rfl rfl <| qA rfl rfl rfl <| qN <| mwp_ret ?_
      exact ret_tmp (.inr rfl) Tryz.results74 rfl (.of_eq (by first | (rw [hF]; done) | (congr 1; rw [Bool.eq_iff_iff]; simp_all [isLastF]; done) | (congr 1; rw [Bool.eq_iff_iff]; simp_all [isLastF]; omega))) (.bool _) ⟨rfl, rfl⟩
     ·
      have hm0 : m = 0 := by simp at h36; omega
      subst hm0
      refine qF rfl rfl rfl fo30_2 <| qL rfl rfl rfl rfl ta26 rfl <| qO rfl <| op_indexAddr rfl Tryz.underlying26 sz9 (by decide) rfl rfl rfl (show _ = some (encX t) from rfl) ?_
      refine qO rfl <| op_load_sptr rfl rfl ta9 rfl <| qO rfl <| op_strcmp rfl rfl rfl rfl <| qP rfl rfl rfl rfl <| qP rfl rfl rfl rfl <| qA rfl rfl rfl <| qN <| mwp_ret ?_
      exact ret_tmp (.inr rfl) Tryz.results74 rfl (.of_eq (by first | (rw [hF]; done) | (congr 1; rw [Bool.eq_iff_iff]; simp_all [isLastF]; done) | (congr 1; rw [Bool.eq_iff_iff]; simp_all [isLastF]; omega))) (.bool _) ⟨rfl, rfl⟩
   ·
    refine qS rfl <| qS rfl <| qS rfl <| qS rfl <| qS rfl <| qS rfl <| qS rfl <| qS rfl <| qS rfl <| qS rfl <| qS rfl <| qS rfl <| qS rfl <| qS rfl <| qS rfl <| qP rfl rfl rfl rfl <| qA rfl rfl rfl <| qN <| mwp_ret ?_
    exact ret_tmp (.inr rfl) Tryz.results74 rfl (.of_eq (by first | (rw [hF]; done) | (congr 1; rw [Bool.eq_iff_iff]; simp_all [isLastF]; done) | (congr 1; rw [Bool.eq_iff_iff]; simp_all [isLastF]; omega))) (.bool _) ⟨rfl, rfl⟩
  ·
   have hF : isLastF n m s = false := last_no hs0 (fun e => by rw [List.length_map, e] at h19; simp at h19)
   refine qS rfl <| qS rfl <| qS rfl <| qS rfl <| qS rfl <| qS rfl <| qP rfl rfl rfl rfl <| qM rfl rfl rfl <| qS rfl <| qS rfl <| qS rfl <| qS rfl <| qS rfl <| qS rfl <| qS rfl <| qS rfl <| qS rfl <| qS rfl <| qS rfl <| qS rfl <| qS rfl <| qS rfl <| qS rfl <| qP rfl rfl rfl rfl <| qA rfl rfl rfl <| qN ?_
   refine mwp_ret ?_
   exact ret_tmp (.inr rfl) Tryz.results74 rfl (.of_eq (by first | (rw [hF]; done) | (congr 1; rw [Bool.eq_iff_iff]; simp_all [isLastF]; done) | (congr 1; rw [Bool.eq_iff_iff]; simp_all [isLastF]; omega))) (.bool _) ⟨rfl, rfl⟩
theorem bare_spec (k : Int) (hk : k = 1 ∨ k = 2 ∨ k = 3 ∨ k = 4 ∨ k = 5 ∨ k = 6 ∨ k = 7 ∨ k = 8) (n m : Int) (s : List Bs) (c : List (List Tk)) (w : List Val) (S : MS) : MCalls Tryz.prog 69 [.int .i64 k, encV (.mk n m s c w)] S fun v σ' => v = .bool (bareF k (.mk n m s c w)) ∧ σ' = S := by
 rcases hk with rfl | rfl | rfl | rfl | rfl | rfl | rfl | rfl
 ·
  refine mcalls_body Tryz.func69 rfl Tryz.ntmps69 (Nat.le_of_ble_eq_true rfl) ?_
  refine mwp_seq <| qR rfl <| qB rfl rfl rfl rfl rfl <| qA rfl rfl rfl <| qN <| mwp_seq <| qR rfl <| qM rfl rfl rfl <| qC rfl rfl rfl rfl rfl <| qM rfl rfl rfl <| qS rfl <| qS rfl <| qP rfl rfl rfl rfl <| qM rfl rfl rfl <| qS rfl <| qS rfl <| qP rfl rfl rfl rfl <| qA rfl rfl rfl <| qN <| mwp_seq <| qR rfl ?_
  refine qM rfl rfl rfl <| qC rfl rfl rfl rfl rfl <| qM rfl rfl rfl <| qM rfl rfl rfl <| qC rfl rfl rfl rfl rfl <| qP rfl rfl rfl rfl <| qM rfl rfl rfl <| qM rfl rfl rfl <| qC rfl rfl rfl rfl rfl <| qP rfl rfl rfl rfl <| qA rfl rfl rfl <| qN <| mwp_seq <| qR rfl <| qM rfl rfl rfl <| qC rfl rfl rfl rfl rfl <| qM rfl rfl rfl ?_
  refine qM rfl rfl rfl <| qC rfl rfl rfl rfl rfl <| qP rfl rfl rfl rfl <| qA rfl rfl rfl <| qN <| mwp_seq <| qR rfl <| qM rfl rfl rfl <| qC rfl rfl rfl rfl rfl <| qM rfl rfl rfl <| qM rfl rfl rfl <| qC rfl rfl rfl rfl rfl <| qP rfl rfl rfl rfl <| qM rfl rfl rfl <| qM rfl rfl rfl <| qC rfl rfl rfl rfl rfl <| qP rfl rfl rfl rfl ?_
  refine qA rfl rfl rfl <| qN <| mwp_seq <| qR rfl <| qM rfl rfl rfl <| qM rfl rfl rfl <| qS rfl <| qS rfl <| qS rfl <| qP rfl rfl rfl rfl <| qM rfl rfl rfl <| qM rfl rfl rfl <| qC rfl rfl rfl rfl rfl <| qM rfl rfl rfl <| qF rfl rfl rfl fo30_1 <| qL rfl rfl rfl rfl ta25 rfl <| qC rfl rfl rfl rfl rfl <| qP rfl rfl rfl rfl ?_
  refine qP rfl rfl rfl rfl <| qM rfl rfl rfl ?_
  refine wOps_case (fun h60 => ?_) (fun h60 => ?_)
  ·
   refine qM rfl rfl rfl <| qM rfl rfl rfl <| qF rfl rfl rfl fo30_2 <| qL rfl rfl rfl rfl ta26 rfl <| qE rfl rfl Tryz.underlying26 rfl <| qC rfl rfl rfl rfl rfl <| qP rfl rfl rfl rfl <| qP rfl rfl rfl rfl <| qM rfl rfl rfl ?_
   refine wOps_case (fun h69 => ?_) (fun h69 => ?_)
   ·
    refine qM rfl rfl rfl <| qM rfl rfl rfl <| qF rfl rfl rfl fo30_3 <| qL rfl rfl rfl rfl ta27 rfl <| qE rfl rfl Tryz.underlying27 rfl <| qC rfl rfl rfl rfl rfl <| qP rfl rfl rfl rfl <| qP rfl rfl rfl rfl <| qM rfl rfl rfl ?_
    refine wOps_case (fun h78 => ?_) (fun h78 => ?_)
    ·
     refine qM rfl rfl rfl <| qM rfl rfl rfl <| qF rfl rfl rfl fo30_4 <| qL rfl rfl rfl rfl ta28 rfl <| qE rfl rfl Tryz.underlying28 rfl ?_
     try rw [encVs_length]
     refine qC rfl rfl rfl rfl rfl <| qP rfl rfl rfl rfl <| qP rfl rfl rfl rfl <| qA rfl rfl rfl <| qN <| mwp_ret ?_
     exact ret_tmp (.inr rfl) Tryz.results69 rfl (.of_eq (by congr 1; rw [Bool.eq_iff_iff]; simp_all [bareF, numsK, textsK, clocksK, valuesK, Val.nv, Val.mv, Val.sv, Val.cv, Val.vv])) (.bool _) ⟨rfl, rfl⟩
    ·
     refine qS rfl <| qS rfl <| qS rfl <| qS rfl <| qS rfl <| qS rfl <| qS rfl <| qP rfl rfl rfl rfl <| qA rfl rfl rfl <| qN <| mwp_ret ?_
     exact ret_tmp (.inr rfl) Tryz.results69 rfl (.of_eq (by congr 1; rw [Bool.eq_iff_iff]; simp_all [bareF, numsK, textsK, clocksK, valuesK, Val.nv, Val.mv, Val.sv, Val.cv, Val.vv])) (.bool _) ⟨rfl, rfl⟩
   ·
    refine qS rfl <| qS rfl <| qS rfl <| qS rfl <| qS rfl <| qS rfl <| qS rfl <| qP rfl rfl rfl rfl <| qM rfl rfl rfl <| qS rfl <| qS rfl <| qS rfl <| qS rfl <| qS rfl <| qS rfl <| qS rfl <| qP rfl rfl rfl rfl <| qA rfl rfl rfl <| qN <| mwp_ret ?_
    exact ret_tmp (.inr rfl) Tryz.results69 rfl (.of_eq (by congr 1; rw [Bool.eq_iff_iff]; simp_all [bareF, numsK, textsK, clocksK, valuesK, Val.nv, Val.mv, Val.sv, Val.cv, Val.vv])) (.bool _) ⟨rfl, rfl⟩
  ·
   refine qS rfl <| qS rfl <| qS rfl <| qS rfl <| qS rfl <| qS rfl <| qS rfl <| qP rfl rfl rfl rfl <| qM rfl rfl rfl <| qS rfl <| qS rfl <| qS rfl <| qS rfl <| qS rfl <| qS rfl <| qS rfl <| qP rfl rfl rfl rfl <| qM rfl rfl rfl <| qS rfl <| qS rfl <| qS rfl <| qS rfl <| qS rfl <| qS rfl <| qS rfl <| qP rfl rfl rfl rfl ?_
   refine qA rfl rfl rfl <| qN <| mwp_ret ?_
   exact ret_tmp (.inr rfl) Tryz.results69 rfl (.of_eq (by congr 1; rw [Bool.eq_iff_iff]; simp_all [bareF, numsK, textsK, clocksK, valuesK, Val.nv, Val.mv, Val.sv, Val.cv, Val.vv])) (.bool _) ⟨rfl, rfl⟩
 ·
  refine mcalls_body Tryz.func69 rfl Tryz.ntmps69 (Nat.le_of_ble_eq_true rfl) ?_
  refine mwp_seq <| qR rfl <| qB rfl rfl rfl rfl rfl <| qA rfl rfl rfl <| qN <| mwp_seq <| qR rfl <| qM rfl rfl rfl <| qC rfl rfl rfl rfl rfl <| qM rfl rfl rfl <| qM rfl rfl rfl <| qC rfl rfl rfl rfl rfl <| qP rfl rfl rfl rfl <| qM rfl rfl rfl <| qS rfl <| qS rfl <| qP rfl rfl rfl rfl <| qA rfl rfl rfl <| qN ?_
  refine mwp_seq <| qR rfl <| qM rfl rfl rfl <| qC rfl rfl rfl rfl rfl <| qM rfl rfl rfl <| qM rfl rfl rfl <| qC rfl rfl rfl rfl rfl <| qP rfl rfl rfl rfl <| qM rfl rfl rfl <| qM rfl rfl rfl <| qC rfl rfl rfl rfl rfl <| qP rfl rfl rfl rfl <| qA rfl rfl rfl <| qN <| mwp_seq <| qR rfl <| qM rfl rfl rfl <| qC rfl rfl rfl rfl rfl ?_
  refine qM rfl rfl rfl <| qM rfl rfl rfl <| qC rfl rfl rfl rfl rfl <| qP rfl rfl rfl rfl <| qA rfl rfl rfl <| qN <| mwp_seq <| qR rfl <| qM rfl rfl rfl <| qC rfl rfl rfl rfl rfl <| qM rfl rfl rfl <| qM rfl rfl rfl <| qC rfl rfl rfl rfl rfl <| qP rfl rfl rfl rfl <| qM rfl rfl rfl <| qM rfl rfl rfl <| qC rfl rfl rfl rfl rfl ?_
  refine qP rfl rfl rfl rfl <| qA rfl rfl rfl <| qN <| mwp_seq <| qR rfl <| qM rfl rfl rfl <| qM rfl rfl rfl <| qS rfl <| qS rfl <| qS rfl <| qP rfl rfl rfl rfl <| qM rfl rfl rfl <| qM rfl rfl rfl <| qC rfl rfl rfl rfl rfl <| qM rfl rfl rfl <| qF rfl rfl rfl fo30_1 <| qL rfl rfl rfl rfl ta25 rfl <| qC rfl rfl rfl rfl rfl ?_
  refine qP rfl rfl rfl rfl <| qP rfl rfl rfl rfl <| qM rfl rfl rfl ?_
  refine wOps_case (fun h60 => ?_) (fun h60 => ?_)
  ·
   refine qM rfl rfl rfl <| qM rfl rfl rfl <| qF rfl rfl rfl fo30_2 <| qL rfl rfl rfl rfl ta26 rfl <| qE rfl rfl Tryz.underlying26 rfl <| qC rfl rfl rfl rfl rfl <| qP rfl rfl rfl rfl <| qP rfl rfl rfl rfl <| qM rfl rfl rfl ?_
   refine wOps_case (fun h69 => ?_) (fun h69 => ?_)
   ·
    refine qM rfl rfl rfl <| qM rfl rfl rfl <| qF rfl rfl rfl fo30_3 <| qL rfl rfl rfl rfl ta27 rfl <| qE rfl rfl Tryz.underlying27 rfl <| qC rfl rfl rfl rfl rfl <| qP rfl rfl rfl rfl <| qP rfl rfl rfl rfl <| qM rfl rfl rfl ?_
    refine wOps_case (fun h78 => ?_) (fun h78 => ?_)
    ·
     refine qM rfl rfl rfl <| qM rfl rfl rfl <| qF rfl rfl rfl fo30_4 <| qL rfl rfl rfl rfl ta28 rfl <| qE rfl rfl Tryz.underlying28 rfl ?_
     try rw [encVs_length]
     refine qC rfl rfl rfl rfl rfl <| qP rfl rfl rfl rfl <| qP rfl rfl rfl rfl <| qA rfl rfl rfl <| qN <| mwp_ret ?_
     exact ret_tmp (.inr rfl) Tryz.results69 rfl (.of_eq (by congr 1; rw [Bool.eq_iff_iff]; simp_all [bareF, numsK, textsK, clocksK, valuesK, Val.nv, Val.mv, Val.sv, Val.cv, Val.vv])) (.bool _) ⟨rfl, rfl⟩
    ·
     refine qS rfl <| qS rfl <| qS rfl <| qS rfl <| qS rfl <| qS rfl <| qS rfl <| qP rfl rfl rfl rfl <| qA rfl rfl rfl <| qN <| mwp_ret ?_
     exact ret_tmp (.inr rfl) Tryz.results69 rfl (.of_eq (by congr 1; rw [Bool.eq_iff_iff]; simp_all [bareF, numsK, textsK, clocksK, valuesK, Val.nv, Val.mv, Val.sv, Val.cv, Val.vv])) (.bool _) ⟨rfl, rfl⟩
   ·
    refine qS rfl <| qS rfl <| qS rfl <| qS rfl <| qS rfl <| qS rfl <| qS rfl <| qP rfl rfl rfl rfl <| qM rfl rfl rfl <| qS rfl <| qS rfl <| qS rfl <| qS rfl <| qS rfl <| qS rfl <| qS rfl <| qP rfl rfl rfl rfl <| qA rfl rfl rfl <| qN <| mwp_ret ?_
    exact ret_tmp (.inr rfl) Tryz.results69 rfl (.of_eq (by congr 1; rw [Bool.eq_iff_iff]; simp_all [bareF, numsK, textsK, clocksK, valuesK, Val.nv, Val.mv, Val.sv, Val.cv, Val.vv])) (.bool _) ⟨rfl, rfl⟩
  ·
   refine qS rfl <| qS rfl <| qS rfl <| qS rfl <| qS rfl <| qS rfl <| qS rfl <| qP rfl rfl rfl rfl <| qM rfl rfl rfl <| qS rfl <| qS rfl <| qS rfl <| qS rfl <| qS rfl <| qS rfl <| qS rfl <| qP rfl rfl rfl rfl <| qM rfl rfl rfl <| qS rfl <| qS rfl <| qS rfl <| qS rfl <| qS rfl <| qS rfl <| qS rfl <| qP rfl rfl rfl rfl ?_
   refine qA rfl rfl rfl <| qN <| mwp_ret ?_
   exact ret_tmp (.inr rfl) Tryz.results69 rfl (.of_eq (by congr 1; rw [Bool.eq_iff_iff]; simp_all [bareF, numsK, textsK, clocksK, valuesK, Val.nv, Val.mv, Val.sv, Val.cv, Val.vv])) (.bool _) ⟨rfl, rfl⟩
 ·
  refine mcalls_body Tryz.func69 rfl Tryz.ntmps69 (Nat.le_of_ble_eq_true rfl) ?_
  refine mwp_seq <| qR rfl <| qB rfl rfl rfl rfl rfl <| qA rfl rfl rfl <| qN <| mwp_seq <| qR rfl <| qM rfl rfl rfl <| qC rfl rfl rfl rfl rfl <| qM rfl rfl rfl <| qM rfl rfl rfl <| qC rfl rfl rfl rfl rfl <| qP rfl rfl rfl rfl <| qM rfl rfl rfl <| qM rfl rfl rfl <| qC rfl rfl rfl rfl rfl <| qP rfl rfl rfl rfl <| qA rfl rfl rfl ?_
  refine qN <| mwp_seq <| qR rfl <| qM rfl rfl rfl <| qC rfl rfl rfl rfl rfl <| qM rfl rfl rfl <| qS rfl <| qS rfl <| qP rfl rfl rfl rfl <| qM rfl rfl rfl <| qS rfl <| qS rfl <| qP rfl rfl rfl rfl <| qA rfl rfl rfl <| qN <| mwp_seq <| qR rfl <| qM rfl rfl rfl <| qC rfl rfl rfl rfl rfl <| qM rfl rfl rfl ?_
  refine qM rfl rfl rfl <| qC rfl rfl rfl rfl rfl <| qP rfl rfl rfl rfl <| qA rfl rfl rfl <| qN <| mwp_seq <| qR rfl <| qM rfl rfl rfl <| qC rfl rfl rfl rfl rfl <| qM rfl rfl rfl <| qM rfl rfl rfl <| qC rfl rfl rfl rfl rfl <| qP rfl rfl rfl rfl <| qM rfl rfl rfl <| qM rfl rfl rfl <| qC rfl rfl rfl rfl rfl <| qP rfl rfl rfl rfl ?_
  refine qA rfl rfl rfl <| qN <| mwp_seq <| qR rfl <| qM rfl rfl rfl <| qM rfl rfl rfl <| qF rfl rfl rfl fo30_0 <| qL rfl rfl rfl rfl ta25 rfl <| qC rfl rfl rfl rfl rfl <| qP rfl rfl rfl rfl <| qM rfl rfl rfl ?_
  refine wOps_case (fun h51 => ?_) (fun h51 => ?_)
  ·
   refine qM rfl rfl rfl <| qC rfl rfl rfl rfl rfl <| qM rfl rfl rfl <| qF rfl rfl rfl fo30_1 <| qL rfl rfl rfl rfl ta25 rfl <| qC rfl rfl rfl rfl rfl <| qP rfl rfl rfl rfl <| qP rfl rfl rfl rfl <| qM rfl rfl rfl ?_
   refine wOps_case (fun h60 => ?_) (fun h60 => ?_)
   ·
    refine qM rfl rfl rfl <| qM rfl rfl rfl <| qS rfl <| qS rfl <| qS rfl <| qS rfl <| qP rfl rfl rfl rfl <| qP rfl rfl rfl rfl <| qM rfl rfl rfl <| qM rfl rfl rfl <| qM rfl rfl rfl <| qF rfl rfl rfl fo30_3 <| qL rfl rfl rfl rfl ta27 rfl <| qE rfl rfl Tryz.underlying27 rfl <| qC rfl rfl rfl rfl rfl <| qP rfl rfl rfl rfl <| qP rfl rfl rfl rfl ?_
    refine qM rfl rfl rfl ?_
    refine wOps_case (fun h78 => ?_) (fun h78 => ?_)
    ·
     refine qM rfl rfl rfl <| qM rfl rfl rfl <| qF rfl rfl rfl fo30_4 <| qL rfl rfl rfl rfl ta28 rfl <| qE rfl rfl Tryz.underlying28 rfl ?_
     try rw [encVs_length]
     refine qC rfl rfl rfl rfl rfl <| qP rfl rfl rfl rfl <| qP rfl rfl rfl rfl <| qA rfl rfl rfl <| qN <| mwp_ret ?_
     exact ret_tmp (.inr rfl) Tryz.results69 rfl (.of_eq (by congr 1; rw [Bool.eq_iff_iff]; simp_all [bareF, numsK, textsK, clocksK, valuesK, Val.nv, Val.mv, Val.sv, Val.cv, Val.vv])) (.bool _) ⟨rfl, rfl⟩
    ·
     refine qS rfl <| qS rfl <| qS rfl <| qS rfl <| qS rfl <| qS rfl <| qS rfl <| qP rfl rfl rfl rfl <| qA rfl rfl rfl <| qN <| mwp_ret ?_
     exact ret_tmp (.inr rfl) Tryz.results69 rfl (.of_eq (by congr 1; rw [Bool.eq_iff_iff]; simp_all [bareF, numsK, textsK, clocksK, valuesK, Val.nv, Val.mv, Val.sv, Val.cv, Val.vv])) (.bool _) ⟨rfl, rfl⟩
   ·
    refine qS rfl <| qS rfl <| qS rfl <| qS rfl <| qS rfl <| qS rfl <| qS rfl <| qP rfl rfl rfl rfl <| qM rfl rfl rfl <| qS rfl <| qS rfl <| qS rfl <| qS rfl <| qS rfl <| qS rfl <| qS rfl <| qP rfl rfl rfl rfl <| qM rfl rfl rfl <| qS rfl <| qS rfl <| qS rfl <| qS rfl <| qS rfl <| qS rfl <| qS rfl <| qP rfl rfl rfl rfl ?_
    refine qA rfl rfl rfl <| qN <| mwp_ret ?_
    exact ret_tmp (.inr rfl) Tryz.results69 rfl (.of_eq (by congr 1; rw [Bool.eq_iff_iff]; simp_all [bareF, numsK, textsK, clocksK, valuesK, Val.nv, Val.mv, Val.sv, Val.cv, Val.vv])) (.bool _) ⟨rfl, rfl⟩
  ·
   refine qS rfl <| qS rfl <| qS rfl <| qS rfl <| qS rfl <| qS rfl <| qS rfl <| qP rfl rfl rfl rfl <| qM rfl rfl rfl <| qS rfl <| qS rfl <| qS rfl <| qS rfl <| qS rfl <| qS rfl <| qS rfl <| qP rfl rfl rfl rfl <| qM rfl rfl rfl <| qS rfl <| qS rfl <| qS rfl <| qS rfl <| qS rfl <| qS rfl <| qS rfl <| qP rfl rfl rfl rfl ?_
   refine qM rfl rfl rfl <| qS rfl <| qS rfl <| qS rfl <| qS rfl <| qS rfl <| qS rfl <| qS rfl <| qP rfl rfl rfl rfl <| qA rfl rfl rfl <| qN <| mwp_ret ?_
   exact ret_tmp (.inr rfl) Tryz.results69 rfl (.of_eq (by congr 1; rw [Bool.eq_iff_iff]; simp_all [bareF, numsK, textsK, clocksK, valuesK, Val.nv, Val.mv, Val.sv, Val.cv, Val.vv])) (.bool _) ⟨rfl, rfl⟩
 ·
  refine mcalls_body Tryz.func69 rfl Tryz.ntmps69 (Nat.le_of_ble_eq_true rfl) ?_
  refine mwp_seq <| qR rfl <| qB rfl rfl rfl rfl rfl <| qA rfl rfl rfl <| qN <| mwp_seq <| qR rfl <| qM rfl rfl rfl <| qC rfl rfl rfl rfl rfl <| qM rfl rfl rfl <| qM rfl rfl rfl <| qC rfl rfl rfl rfl rfl <| qP rfl rfl rfl rfl <| qM rfl rfl rfl <| qM rfl rfl rfl <| qC rfl rfl rfl rfl rfl <| qP rfl rfl rfl rfl <| qA rfl rfl rfl ?_
  refine qN <| mwp_seq <| qR rfl <| qM rfl rfl rfl <| qC rfl rfl rfl rfl rfl <| qM rfl rfl rfl <| qM rfl rfl rfl <| qC rfl rfl rfl rfl rfl <| qP rfl rfl rfl rfl <| qM rfl rfl rfl <| qS rfl <| qS rfl <| qP rfl rfl rfl rfl <| qA rfl rfl rfl <| qN <| mwp_seq <| qR rfl <| qM rfl rfl rfl <| qC rfl rfl rfl rfl rfl ?_
  refine qM rfl rfl rfl <| qM rfl rfl rfl <| qC rfl rfl rfl rfl rfl <| qP rfl rfl rfl rfl <| qA rfl rfl rfl <| qN <| mwp_seq <| qR rfl <| qM rfl rfl rfl <| qC rfl rfl rfl rfl rfl <| qM rfl rfl rfl <| qS rfl <| qS rfl <| qP rfl rfl rfl rfl <| qM rfl rfl rfl <| qS rfl <| qS rfl <| qP rfl rfl rfl rfl <| qA rfl rfl rfl ?_
  refine qN <| mwp_seq <| qR rfl <| qM rfl rfl rfl <| qM rfl rfl rfl <| qF rfl rfl rfl fo30_0 <| qL rfl rfl rfl rfl ta25 rfl <| qC rfl rfl rfl rfl rfl <| qP rfl rfl rfl rfl <| qM rfl rfl rfl ?_
  refine wOps_case (fun h51 => ?_) (fun h51 => ?_)
  ·
   refine qM rfl rfl rfl <| qC rfl rfl rfl rfl rfl <| qM rfl rfl rfl <| qF rfl rfl rfl fo30_1 <| qL rfl rfl rfl rfl ta25 rfl <| qC rfl rfl rfl rfl rfl <| qP rfl rfl rfl rfl <| qP rfl rfl rfl rfl <| qM rfl rfl rfl ?_
   refine wOps_case (fun h60 => ?_) (fun h60 => ?_)
   ·
    refine qM rfl rfl rfl <| qM rfl rfl rfl <| qS rfl <| qS rfl <| qS rfl <| qS rfl <| qP rfl rfl rfl rfl <| qP rfl rfl rfl rfl <| qM rfl rfl rfl <| qM rfl rfl rfl <| qM rfl rfl rfl <| qF rfl rfl rfl fo30_3 <| qL rfl rfl rfl rfl ta27 rfl <| qE rfl rfl Tryz.underlying27 rfl <| qC rfl rfl rfl rfl rfl <| qP rfl rfl rfl rfl <| qP rfl rfl rfl rfl ?_
    refine qM rfl rfl rfl ?_
    refine wOps_case (fun h78 => ?_) (fun h78 => ?_)
    ·
     refine qM rfl rfl rfl <| qM rfl rfl rfl <| qS rfl <| qS rfl <| qS rfl <| qS rfl <| qP rfl rfl rfl rfl <| qP rfl rfl rfl rfl <| qA rfl rfl rfl <| qN <| mwp_ret ?_
     exact ret_tmp (.inr rfl) Tryz.results69 rfl (.of_eq (by congr 1; rw [Bool.eq_iff_iff]; simp_all [bareF, numsK, textsK, clocksK, valuesK, Val.nv, Val.mv, Val.sv, Val.cv, Val.vv])) (.bool _) ⟨rfl, rfl⟩
    ·
     refine qS rfl <| qS rfl <| qS rfl <| qS rfl <| qS rfl <| qS rfl <| qS rfl <| qP rfl rfl rfl rfl <| qA rfl rfl rfl <| qN <| mwp_ret ?_
     exact ret_tmp (.inr rfl) Tryz.results69 rfl (.of_eq (by congr 1; rw [Bool.eq_iff_iff]; simp_all [bareF, numsK, textsK, clocksK, valuesK, Val.nv, Val.mv, Val.sv, Val.cv, Val.vv])) (.bool _) ⟨rfl, rfl⟩
   ·
    refine qS rfl <| qS rfl <| qS rfl <| qS rfl <| qS rfl <| qS rfl <| qS rfl <| qP rfl rfl rfl rfl <| qM rfl rfl rfl <| qS rfl <| qS rfl <| qS rfl <| qS rfl <| qS rfl <| qS rfl <| qS rfl <| qP rfl rfl rfl rfl <| qM rfl rfl rfl <| qS rfl <| qS rfl <| qS rfl <| qS rfl <| qS rfl <| qS rfl <| qS rfl <| qP rfl rfl rfl rfl ?_
    refine qA rfl rfl rfl <| qN <| mwp_ret ?_
    exact ret_tmp (.inr rfl) Tryz.results69 rfl (.of_eq (by congr 1; rw [Bool.eq_iff_iff]; simp_all [bareF, numsK, textsK, clocksK, valuesK, Val.nv, Val.mv, Val.sv, Val.cv, Val.vv])) (.bool _) ⟨rfl, rfl⟩
  ·
   refine qS rfl <| qS rfl <| qS rfl <| qS rfl <| qS rfl <| qS rfl <| qS rfl <| qP rfl rfl rfl rfl <| qM rfl rfl rfl <| qS rfl <| qS rfl <| qS rfl <| qS rfl <| qS rfl <| qS rfl <| qS rfl <| qP rfl rfl rfl rfl <| qM rfl rfl rfl <| qS rfl <| qS rfl <| qS rfl <| qS rfl <| qS rfl <| qS rfl <| qS rfl <| qP rfl rfl rfl rfl ?_
   refine qM rfl rfl rfl <| qS rfl <| qS rfl <| qS rfl <| qS rfl <| qS rfl <| qS rfl <| qS rfl <| qP rfl rfl rfl rfl <| qA rfl rfl rfl <| qN <| mwp_ret ?_
   exact ret_tmp (.inr rfl) Tryz.results69 rfl (.of_eq (by congr 1; rw [Bool.eq_iff_iff]; simp_all [bareF, numsK, textsK, clocksK, valuesK, Val.nv, Val.mv, Val.sv, Val.cv, Val.vv])) (.bool _) ⟨rfl, rfl⟩
 ·
  refine mcalls_body Tryz.func69 rfl Tryz.ntmps69 (Nat.le_of_ble_eq_true rfl) ?_
  refine mwp_seq <| qR rfl <| qB rfl rfl rfl rfl rfl <| qA rfl rfl rfl <| qN <| mwp_seq <| qR rfl <| qM rfl rfl rfl <| qC rfl rfl rfl rfl rfl <| qM rfl rfl rfl <| qM rfl rfl rfl <| qC rfl rfl rfl rfl rfl <| qP rfl rfl rfl rfl <| qM rfl rfl rfl <| qM rfl rfl rfl <| qC rfl rfl rfl rfl rfl <| qP rfl rfl rfl rfl <| qA rfl rfl rfl ?_
  refine qN <| mwp_seq <| qR rfl <| qM rfl rfl rfl <| qC rfl rfl rfl rfl rfl <| qM rfl rfl rfl <| qM rfl rfl rfl <| qC rfl rfl rfl rfl rfl <| qP rfl rfl rfl rfl <| qM rfl rfl rfl <| qM rfl rfl rfl <| qC rfl rfl rfl rfl rfl <| qP rfl rfl rfl rfl <| qA rfl rfl rfl <| qN <| mwp_seq <| qR rfl <| qM rfl rfl rfl ?_
  refine qC rfl rfl rfl rfl rfl <| qM rfl rfl rfl <| qM rfl rfl rfl <| qC rfl rfl rfl rfl rfl <| qP rfl rfl rfl rfl <| qA rfl rfl rfl <| qN <| mwp_seq <| qR rfl <| qM rfl rfl rfl <| qC rfl rfl rfl rfl rfl <| qM rfl rfl rfl <| qM rfl rfl rfl <| qC rfl rfl rfl rfl rfl <| qP rfl rfl rfl rfl <| qM rfl rfl rfl <| qS rfl ?_
  refine qS rfl <| qP rfl rfl rfl rfl <| qA rfl rfl rfl <| qN <| mwp_seq <| qR rfl <| qM rfl rfl rfl <| qM rfl rfl rfl <| qF rfl rfl rfl fo30_0 <| qL rfl rfl rfl rfl ta25 rfl <| qC rfl rfl rfl rfl rfl <| qP rfl rfl rfl rfl <| qM rfl rfl rfl ?_
  refine wOps_case (fun h51 => ?_) (fun h51 => ?_)
  ·
   refine qM rfl rfl rfl <| qC rfl rfl rfl rfl rfl <| qM rfl rfl rfl <| qF rfl rfl rfl fo30_1 <| qL rfl rfl rfl rfl ta25 rfl <| qC rfl rfl rfl rfl rfl <| qP rfl rfl rfl rfl <| qP rfl rfl rfl rfl <| qM rfl rfl rfl ?_
   refine wOps_case (fun h60 => ?_) (fun h60 => ?_)
   ·
    refine qM rfl rfl rfl <| qM rfl rfl rfl <| qF rfl rfl rfl fo30_2 <| qL rfl rfl rfl rfl ta26 rfl <| qE rfl rfl Tryz.underlying26 rfl <| qC rfl rfl rfl rfl rfl <| qP rfl rfl rfl rfl <| qP rfl rfl rfl rfl <| qM rfl rfl rfl ?_
    refine wOps_case (fun h69 => ?_) (fun h69 => ?_)
    ·
     refine qM rfl rfl rfl <| qM rfl rfl rfl <| qF rfl rfl rfl fo30_3 <| qL rfl rfl rfl rfl ta27 rfl <| qE rfl rfl Tryz.underlying27 rfl <| qC rfl rfl rfl rfl rfl <| qP rfl rfl rfl rfl <| qP rfl rfl rfl rfl <| qM rfl rfl rfl ?_
     refine wOps_case (fun h78 => ?_) (fun h78 => ?_)
     ·
      refine qM rfl rfl rfl <| qM rfl rfl rfl <| qS rfl <| qS rfl <| qS rfl <| qS rfl <| qP rfl rfl rfl rfl <| qP rfl rfl rfl rfl <| qA rfl rfl rfl <| qN <| mwp_ret ?_
      exact ret_tmp (.inr rfl) Tryz.results69 rfl (.of_eq (by congr 1; rw [Bool.eq_iff_iff]; simp_all [bareF, numsK, textsK, clocksK, valuesK, Val.nv, Val.mv, Val.sv, Val.cv, Val.vv])) (.bool _) ⟨rfl, rfl⟩
     ·
      refine qS rfl <| qS rfl <| qS rfl <| qS rfl <| qS rfl <| qS rfl <| qS rfl <| qP rfl rfl rfl rfl <| qA rfl rfl rfl <| qN <| mwp_ret ?_
      exact ret_tmp (.inr rfl) Tryz.results69 rfl (.of_eq (by congr 1; rw [Bool.eq_iff_iff]; simp_all [bareF, numsK, textsK, clocksK, valuesK, Val.nv, Val.mv, Val.sv, Val.cv, Val.vv])) (.bool _) ⟨rfl, rfl⟩
    ·
     refine qS rfl <| qS rfl <| qS rfl <| qS rfl <| qS rfl <| qS rfl <| qS rfl <| qP rfl rfl rfl rfl <| qM rfl rfl rfl <| qS rfl <| qS rfl <| qS rfl <| qS rfl <| qS rfl <| qS rfl <| qS rfl <| qP rfl rfl rfl rfl <| qA rfl rfl rfl <| qN <| mwp_ret ?_
     exact ret_tmp (.inr rfl) Tryz.results69 rfl (.of_eq (by congr 1; rw [Bool.eq_iff_iff]; simp_all [bareF, numsK, textsK, clocksK, valuesK, Val.nv, Val.mv, Val.sv, Val.cv, Val.vv])) (.bool _) ⟨rfl, rfl⟩
   ·
    refine qS rfl <| qS rfl <| qS rfl <| qS rfl <| qS rfl <| qS rfl <| qS rfl <| qP rfl rfl rfl rfl <| qM rfl rfl rfl <| qS rfl <| qS rfl <| qS rfl <| qS rfl <| qS rfl <| qS rfl <| qS rfl <| qP rfl rfl rfl rfl <| qM rfl rfl rfl <| qS rfl <| qS rfl <| qS rfl <| qS rfl <| qS rfl <| qS rfl <| qS rfl <| qP rfl rfl rfl rfl ?_
    refine qA rfl rfl rfl <| qN <| mwp_ret ?_
    exact ret_tmp (.inr rfl) Tryz.results69 rfl (.of_eq (by congr 1; rw [Bool.eq_iff_iff]; simp_all [bareF, numsK, textsK, clocksK, valuesK, Val.nv, Val.mv, Val.sv, Val.cv, Val.vv])) (.bool _) ⟨rfl, rfl⟩
  ·
   refine qS rfl <| qS rfl <| qS rfl <| qS rfl <| qS rfl <| qS rfl <| qS rfl <| qP rfl rfl rfl rfl <| qM rfl rfl rfl <| qS rfl <| qS rfl <| qS rfl <| qS rfl <| qS rfl <| qS rfl <| qS rfl <| qP rfl rfl rfl rfl <| qM rfl rfl rfl <| qS rfl <| qS rfl <| qS rfl <| qS rfl <| qS rfl <| qS rfl <| qS rfl <| qP rfl rfl rfl rfl ?_
   refine qM rfl rfl rfl <| qS rfl <| qS rfl <| qS rfl <| qS rfl <| qS rfl <| qS rfl <| qS rfl <| qP rfl rfl rfl rfl <| qA rfl rfl rfl <| qN <| mwp_ret ?_
   exact ret_tmp (.inr rfl) Tryz.results69 rfl (.of_eq (by congr 1; rw [Bool.eq_iff_iff]; simp_all [bareF, numsK, textsK, clocksK, valuesK, Val.nv, Val.mv, Val.sv, Val.cv, Val.vv])) (.bool _) ⟨rfl, rfl⟩
 ·
  refine mcalls_body Tryz.func69 rfl Tryz.ntmps69 (Nat.le_of_ble_eq_true rfl) ?_
  refine mwp_seq <| qR rfl <| qB rfl rfl rfl rfl rfl <| qA rfl rfl rfl <| qN <| mwp_seq <| qR rfl <| qM rfl rfl rfl <| qC rfl rfl rfl rfl rfl <| qM rfl rfl rfl <| qM rfl rfl rfl <| qC rfl rfl rfl rfl rfl <| qP rfl rfl rfl rfl <| qM rfl rfl rfl <| qM rfl rfl rfl <| qC rfl rfl rfl rfl rfl <| qP rfl rfl rfl rfl <| qA rfl rfl rfl ?_
  refine qN <| mwp_seq <| qR rfl <| qM rfl rfl rfl <| qC rfl rfl rfl rfl rfl <| qM rfl rfl rfl <| qM rfl rfl rfl <| qC rfl rfl rfl rfl rfl <| qP rfl rfl rfl rfl <| qM rfl rfl rfl <| qM rfl rfl rfl <| qC rfl rfl rfl rfl rfl <| qP rfl rfl rfl rfl <| qA rfl rfl rfl <| qN <| mwp_seq <| qR rfl <| qM rfl rfl rfl ?_
  refine qC rfl rfl rfl rfl rfl <| qM rfl rfl rfl <| qM rfl rfl rfl <| qC rfl rfl rfl rfl rfl <| qP rfl rfl rfl rfl <| qA rfl rfl rfl <| qN <| mwp_seq <| qR rfl <| qM rfl rfl rfl <| qC rfl rfl rfl rfl rfl <| qM rfl rfl rfl <| qM rfl rfl rfl <| qC rfl rfl rfl rfl rfl <| qP rfl rfl rfl rfl <| qM rfl rfl rfl <| qM rfl rfl rfl ?_
  refine qC rfl rfl rfl rfl rfl <| qP rfl rfl rfl rfl <| qA rfl rfl rfl <| qN <| mwp_seq <| qR rfl <| qM rfl rfl rfl <| qM rfl rfl rfl <| qS rfl <| qS rfl <| qS rfl <| qP rfl rfl rfl rfl <| qM rfl rfl rfl <| qM rfl rfl rfl <| qC rfl rfl rfl rfl rfl <| qM rfl rfl rfl <| qS rfl <| qS rfl <| qS rfl <| qP rfl rfl rfl rfl ?_
  refine qP rfl rfl rfl rfl <| qM rfl rfl rfl <| qM rfl rfl rfl <| qM rfl rfl rfl <| qS rfl <| qS rfl <| qS rfl <| qS rfl <| qP rfl rfl rfl rfl <| qP rfl rfl rfl rfl <| qM rfl rfl rfl <| qM rfl rfl rfl <| qM rfl rfl rfl <| qF rfl rfl rfl fo30_3 <| qL rfl rfl rfl rfl ta27 rfl <| qE rfl rfl Tryz.underlying27 rfl <| qC rfl rfl rfl rfl rfl ?_
  refine qP rfl rfl rfl rfl <| qP rfl rfl rfl rfl <| qM rfl rfl rfl ?_
  refine wOps_case (fun h78 => ?_) (fun h78 => ?_)
  ·
   refine qM rfl rfl rfl <| qM rfl rfl rfl <| qF rfl rfl rfl fo30_4 <| qL rfl rfl rfl rfl ta28 rfl <| qE rfl rfl Tryz.underlying28 rfl ?_
   try rw [encVs_length]
   refine qC rfl rfl rfl rfl rfl <| qP rfl rfl rfl rfl <| qP rfl rfl rfl rfl <| qA rfl rfl rfl <| qN <| mwp_ret ?_
   exact ret_tmp (.inr rfl) Tryz.results69 rfl (.of_eq (by congr 1; rw [Bool.eq_iff_iff]; simp_all [bareF, numsK, textsK, clocksK, valuesK, Val.nv, Val.mv, Val.sv, Val.cv, Val.vv])) (.bool _) ⟨rfl, rfl⟩
  ·
   refine qS rfl <| qS rfl <| qS rfl <| qS rfl <| qS rfl <| qS rfl <| qS rfl <| qP rfl rfl rfl rfl <| qA rfl rfl rfl <| qN <| mwp_ret ?_
   exact ret_tmp (.inr rfl) Tryz.results69 rfl (.of_eq (by congr 1; rw [Bool.eq_iff_iff]; simp_all [bareF, numsK, textsK, clocksK, valuesK, Val.nv, Val.mv, Val.sv, Val.cv, Val.vv])) (.bool _) ⟨rfl, rfl⟩
 ·
  refine mcalls_body Tryz.func69 rfl Tryz.ntmps69 (Nat.le_of_ble_eq_true rfl) ?_
  refine mwp_seq <| qR rfl <| qB rfl rfl rfl rfl rfl <| qA rfl rfl rfl <| qN <| mwp_seq <| qR rfl <| qM rfl rfl rfl <| qC rfl rfl rfl rfl rfl <| qM rfl rfl rfl <| qM rfl rfl rfl <| qC rfl rfl rfl rfl rfl <| qP rfl rfl rfl rfl <| qM rfl rfl rfl <| qM rfl rfl rfl <| qC rfl rfl rfl rfl rfl <| qP rfl rfl rfl rfl <| qA rfl rfl rfl ?_
  refine qN <| mwp_seq <| qR rfl <| qM rfl rfl rfl <| qC rfl rfl rfl rfl rfl <| qM rfl rfl rfl <| qM rfl rfl rfl <| qC rfl rfl rfl rfl rfl <| qP rfl rfl rfl rfl <| qM rfl rfl rfl <| qM rfl rfl rfl <| qC rfl rfl rfl rfl rfl <| qP rfl rfl rfl rfl <| qA rfl rfl rfl <| qN <| mwp_seq <| qR rfl <| qM rfl rfl rfl ?_
  refine qC rfl rfl rfl rfl rfl <| qM rfl rfl rfl <| qS rfl <| qS rfl <| qP rfl rfl rfl rfl <| qA rfl rfl rfl <| qN <| mwp_seq <| qR rfl <| qM rfl rfl rfl <| qC rfl rfl rfl rfl rfl <| qM rfl rfl rfl <| qM rfl rfl rfl <| qC rfl rfl rfl rfl rfl <| qP rfl rfl rfl rfl <| qM rfl rfl rfl <| qM rfl rfl rfl <| qC rfl rfl rfl rfl rfl ?_
  refine qP rfl rfl rfl rfl <| qA rfl rfl rfl <| qN <| mwp_seq <| qR rfl <| qM rfl rfl rfl <| qM rfl rfl rfl <| qF rfl rfl rfl fo30_0 <| qL rfl rfl rfl rfl ta25 rfl <| qC rfl rfl rfl rfl rfl <| qP rfl rfl rfl rfl <| qM rfl rfl rfl ?_
  refine wOps_case (fun h51 => ?_) (fun h51 => ?_)
  ·
   refine qM rfl rfl rfl <| qC rfl rfl rfl rfl rfl <| qM rfl rfl rfl <| qF rfl rfl rfl fo30_1 <| qL rfl rfl rfl rfl ta25 rfl <| qC rfl rfl rfl rfl rfl <| qP rfl rfl rfl rfl <| qP rfl rfl rfl rfl <| qM rfl rfl rfl ?_
   refine wOps_case (fun h60 => ?_) (fun h60 => ?_)
   ·
    refine qM rfl rfl rfl <| qM rfl rfl rfl <| qF rfl rfl rfl fo30_2 <| qL rfl rfl rfl rfl ta26 rfl <| qE rfl rfl Tryz.underlying26 rfl <| qC rfl rfl rfl rfl rfl <| qP rfl rfl rfl rfl <| qP rfl rfl rfl rfl <| qM rfl rfl rfl ?_
    refine wOps_case (fun h69 => ?_) (fun h69 => ?_)
    ·
     refine qM rfl rfl rfl <| qM rfl rfl rfl <| qS rfl <| qS rfl <| qS rfl <| qS rfl <| qP rfl rfl rfl rfl <| qP rfl rfl rfl rfl <| qM rfl rfl rfl <| qM rfl rfl rfl <| qM rfl rfl rfl <| qF rfl rfl rfl fo30_4 <| qL rfl rfl rfl rfl ta28 rfl <| qE rfl rfl Tryz.underlying28 rfl ?_
     try rw [encVs_length]
     refine qC rfl rfl rfl rfl rfl <| qP rfl rfl rfl rfl <| qP rfl rfl rfl rfl <| qA rfl rfl rfl <| qN <| mwp_ret ?_
     exact ret_tmp (.inr rfl) Tryz.results69 rfl (.of_eq (by congr 1; rw [Bool.eq_iff_iff]; simp_all [bareF, numsK, textsK, clocksK, valuesK, Val.nv, Val.mv, Val.sv, Val.cv, Val.vv])) (.bool _) ⟨rfl, rfl⟩
    ·
     refine qS rfl <| qS rfl <| qS rfl <| qS rfl <| qS rfl <| qS rfl <| qS rfl <| qP rfl rfl rfl rfl <| qM rfl rfl rfl <| qS rfl <| qS rfl <| qS rfl <| qS rfl <| qS rfl <| qS rfl <| qS rfl <| qP rfl rfl rfl rfl <| qA rfl rfl rfl <| qN <| mwp_ret ?_
     exact ret_tmp (.inr rfl) Tryz.results69 rfl (.of_eq (by congr 1; rw [Bool.eq_iff_iff]; simp_all [bareF, numsK, textsK, clocksK, valuesK, Val.nv, Val.mv, Val.sv, Val.cv, Val.vv])) (.bool _) ⟨rfl, rfl⟩
   ·
    refine qS rfl <| qS rfl <| qS rfl <| qS rfl <| qS rfl <| qS rfl <| qS rfl <| qP rfl rfl rfl rfl <| qM rfl rfl rfl <| qS rfl <| qS rfl <| qS rfl <| qS rfl <| qS rfl <| qS rfl <| qS rfl <| qP rfl rfl rfl rfl <| qM rfl rfl rfl <| qS rfl <| qS rfl <| qS rfl <| qS rfl <| qS rfl <| qS rfl <| qS rfl <| qP rfl rfl rfl rfl ?_
    refine qA rfl rfl rfl <| qN <| mwp_ret ?_
    exact ret_tmp (.inr rfl) Tryz.results69 rfl (.of_eq (by congr 1; rw [Bool.eq_iff_iff]; simp_all [bareF, numsK, textsK, clocksK, valuesK, Val.nv, Val.mv, Val.sv, Val.cv, Val.vv])) (.bool _) ⟨rfl, rfl⟩
  ·
   refine qS rfl <| qS rfl <| qS rfl <| qS rfl <| qS rfl <| qS rfl <| qS rfl <| qP rfl rfl rfl rfl <| qM rfl rfl rfl <| qS rfl <| qS rfl <| qS rfl <| qS rfl <| qS rfl <| qS rfl <| qS rfl <| qP rfl rfl rfl rfl <| qM rfl rfl rfl <| qS rfl <| qS rfl <| qS rfl <| qS rfl <| qS rfl <| qS rfl <| qS rfl <| qP rfl rfl rfl rfl ?_
   refine qM rfl rfl rfl <| qS rfl <| qS rfl <| qS rfl <| qS rfl <| qS rfl <| qS rfl <| qS rfl <| qP rfl rfl rfl rfl <| qA rfl rfl rfl <| qN <| mwp_ret ?_
   exact ret_tmp (.inr rfl) Tryz.results69 rfl (.of_eq (by congr 1; rw [Bool.eq_iff_iff]; simp_all [bareF, numsK, textsK, clocksK, valuesK, Val.nv, Val.mv, Val.sv, Val.cv, Val.vv])) (.bool _) ⟨rfl, rfl⟩
 ·
  refine mcalls_body Tryz.func69 rfl Tryz.ntmps69 (Nat.le_of_ble_eq_true rfl) ?_
  refine mwp_seq <| qR rfl <| qB rfl rfl rfl rfl rfl <| qA rfl rfl rfl <| qN <| mwp_seq <| qR rfl <| qM rfl rfl rfl <| qC rfl rfl rfl rfl rfl <| qM rfl rfl rfl <| qM rfl rfl rfl <| qC rfl rfl rfl rfl rfl <| qP rfl rfl rfl rfl <| qM rfl rfl rfl <| qM rfl rfl rfl <| qC rfl rfl rfl rfl rfl <| qP rfl rfl rfl rfl <| qA rfl rfl rfl ?_
  refine qN <| mwp_seq <| qR rfl <| qM rfl rfl rfl <| qC rfl rfl rfl rfl rfl <| qM rfl rfl rfl <| qM rfl rfl rfl <| qC rfl rfl rfl rfl rfl <| qP rfl rfl rfl rfl <| qM rfl rfl rfl <| qM rfl rfl rfl <| qC rfl rfl rfl rfl rfl <| qP rfl rfl rfl rfl <| qA rfl rfl rfl <| qN <| mwp_seq <| qR rfl <| qM rfl rfl rfl ?_
  refine qC rfl rfl rfl rfl rfl <| qM rfl rfl rfl <| qM rfl rfl rfl <| qC rfl rfl rfl rfl rfl <| qP rfl rfl rfl rfl <| qA rfl rfl rfl <| qN <| mwp_seq <| qR rfl <| qM rfl rfl rfl <| qC rfl rfl rfl rfl rfl <| qM rfl rfl rfl <| qM rfl rfl rfl <| qC rfl rfl rfl rfl rfl <| qP rfl rfl rfl rfl <| qM rfl rfl rfl <| qM rfl rfl rfl ?_
  refine qC rfl rfl rfl rfl rfl <| qP rfl rfl rfl rfl <| qA rfl rfl rfl <| qN <| mwp_seq <| qR rfl <| qM rfl rfl rfl <| qM rfl rfl rfl <| qF rfl rfl rfl fo30_0 <| qL rfl rfl rfl rfl ta25 rfl <| qC rfl rfl rfl rfl rfl <| qP rfl rfl rfl rfl <| qM rfl rfl rfl ?_
  refine wOps_case (fun h51 => ?_) (fun h51 => ?_)
  ·
   refine qM rfl rfl rfl <| qC rfl rfl rfl rfl rfl <| qM rfl rfl rfl <| qF rfl rfl rfl fo30_1 <| qL rfl rfl rfl rfl ta25 rfl <| qC rfl rfl rfl rfl rfl <| qP rfl rfl rfl rfl <| qP rfl rfl rfl rfl <| qM rfl rfl rfl ?_
   refine wOps_case (fun h60 => ?_) (fun h60 => ?_)
   ·
    refine qM rfl rfl rfl <| qM rfl rfl rfl <| qF rfl rfl rfl fo30_2 <| qL rfl rfl rfl rfl ta26 rfl <| qE rfl rfl Tryz.underlying26 rfl <| qC rfl rfl rfl rfl rfl <| qP rfl rfl rfl rfl <| qP rfl rfl rfl rfl <| qM rfl rfl rfl ?_
    refine wOps_case (fun h69 => ?_) (fun h69 => ?_)
    ·
     refine qM rfl rfl rfl <| qM rfl rfl rfl <| qS rfl <| qS rfl <| qS rfl <| qS rfl <| qP rfl rfl rfl rfl <| qP rfl rfl rfl rfl <| qM rfl rfl rfl <| qM rfl rfl rfl <| qM rfl rfl rfl <| qS rfl <| qS rfl <| qS rfl <| qS rfl <| qP rfl rfl rfl rfl <| qP rfl rfl rfl rfl <| qA rfl rfl rfl <| qN <| mwp_ret ?_
     exact ret_tmp (.inr rfl) Tryz.results69 rfl (.of_eq (by congr 1; rw [Bool.eq_iff_iff]; simp_all [bareF, numsK, textsK, clocksK, valuesK, Val.nv, Val.mv, Val.sv, Val.cv, Val.vv])) (.bool _) ⟨rfl, rfl⟩
    ·
     refine qS rfl <| qS rfl <| qS rfl <| qS rfl <| qS rfl <| qS rfl <| qS rfl <| qP rfl rfl rfl rfl <| qM rfl rfl rfl <| qS rfl <| qS rfl <| qS rfl <| qS rfl <| qS rfl <| qS rfl <| qS rfl <| qP rfl rfl rfl rfl <| qA rfl rfl rfl <| qN <| mwp_ret ?_
     exact ret_tmp (.inr rfl) Tryz.results69 rfl (.of_eq (by congr 1; rw [Bool.eq_iff_iff]; simp_all [bareF, numsK, textsK, clocksK, valuesK, Val.nv, Val.mv, Val.sv, Val.cv, Val.vv])) (.bool _) ⟨rfl, rfl⟩
   ·
    refine qS rfl <| qS rfl <| qS rfl <| qS rfl <| qS rfl <| qS rfl <| qS rfl <| qP rfl rfl rfl rfl <| qM rfl rfl rfl <| qS rfl <| qS rfl <| qS rfl <| qS rfl <| qS rfl <| qS rfl <| qS rfl <| qP rfl rfl rfl rfl <| qM rfl rfl rfl <| qS rfl <| qS rfl <| qS rfl <| qS rfl <| qS rfl <| qS rfl <| qS rfl <| qP rfl rfl rfl rfl ?_
    refine qA rfl rfl rfl <| qN <| mwp_ret ?_
    exact ret_tmp (.inr rfl) Tryz.results69 rfl (.of_eq (by congr 1; rw [Bool.eq_iff_iff]; simp_all [bareF, numsK, textsK, clocksK, valuesK, Val.nv, Val.mv, Val.sv, Val.cv, Val.vv])) (.bool _) ⟨rfl, rfl⟩
  ·
   refine qS rfl <| qS rfl <| qS rfl <| qS rfl <| qS rfl <| qS rfl <| qS rfl <| qP rfl rfl rfl rfl <| qM rfl rfl rfl <| qS rfl <| qS rfl <| qS rfl <| qS rfl <| qS rfl <| qS rfl <| qS rfl <| qP rfl rfl rfl rfl <| qM rfl rfl rfl <| qS rfl <| qS rfl <| qS rfl <| qS rfl <| qS rfl <| qS rfl <| qS rfl <| qP rfl rfl rfl rfl ?_
   refine qM rfl rfl rfl <| qS rfl <| qS rfl <| qS rfl <| qS rfl <| qS rfl <| qS rfl <| qS rfl <| qP rfl rfl rfl rfl <| qA rfl rfl rfl <| qN <| mwp_ret ?_
   exact ret_tmp (.inr rfl) Tryz.results69 rfl (.of_eq (by congr 1; rw [Bool.eq_iff_iff]; simp_all [bareF, numsK, textsK, clocksK, valuesK, Val.nv, Val.mv, Val.sv, Val.cv, Val.vv])) (.bool _) ⟨rfl, rfl⟩
theorem is1v_spec (k k1 : Int) (i1 rest : List Sch) (f : Val → Bool) (ih : ∀ x, okV x → ∀ S : MS, MCalls Tryz.prog 44 [encS (.mk k1 i1), encV x] S fun v σ' => v = .bool (f x) ∧ σ' = S) (x : Val) (hx : okV x) (id : Nat) (S : MS) (hS : S[id]? = some (.cells [.int .i64 k, .lst none 2 (encSs (.mk k1 i1 :: rest))])) : MCalls Tryz.prog 70 [encV x, .ref id 0] S fun v σ' => v = .bool (f x) ∧ σ' = S := by
 obtain ⟨n, m, s, c, w⟩ := x
 refine mcalls_body Tryz.func70 rfl Tryz.ntmps70 (Nat.le_of_ble_eq_true rfl) ?_
 refine mwp_seq <| qR rfl <| qB rfl rfl rfl rfl rfl <| qA rfl rfl rfl <| qN <| mwp_seq ?_
 refine mwp_draw [] [_] mo (by decide) rfl rfl rfl rfl ?_
 refine dO rfl rfl rfl (op_fieldAddr_ref rfl rfl fo24_1 ⟨rfl, rfl⟩) <| dO rfl rfl rfl (op_load_far rfl rfl hS ta22 rfl ⟨rfl, rfl⟩) <| dO rfl rfl rfl (op_indexAddr rfl Tryz.underlying22 sz24 (by decide) rfl rfl rfl (show _ = some (encS (.mk k1 i1)) from rfl) ⟨rfl, rfl⟩) ?_
 refine dO rfl rfl rfl (op_load_sptr rfl rfl ta24 rfl ⟨rfl, rfl⟩) <| dO rfl rfl rfl (op_load' rfl rfl rfl ta30 rfl ⟨rfl, rfl⟩) <| dOps_op rfl rfl (.cons (op_call rfl rfl rfl co44 (ih (.mk n m s c w) hx _)) .nil) <| dO rfl rfl rfl (op_assign rfl rfl ⟨rfl, rfl⟩) <| dOps_nil <| mwp_ret ?_
 exact ret_tmp (.inr rfl) Tryz.results70 rfl (.of_eq (rfl)) (.bool _) ⟨rfl, rfl⟩
theorem is2v_spec (k k1 : Int) (i1 rest : List Sch) (f : Val → Bool) (ih : ∀ x, okV x → ∀ S : MS, MCalls Tryz.prog 44 [encS (.mk k1 i1), encV x] S fun v σ' => v = .bool (f x) ∧ σ' = S) (x : Val) (hx : okV x) (ida ids : Nat) (S : MS) (hA : S[ida]? = some (.cells [.fn (.func 70) [] [.ref ids 0]])) (hS : S[ids]? = some (.cells [.int .i64 k, .lst none 2 (encSs (.mk k1 i1 :: rest))])) : MCalls Tryz.prog 73 [encV x, .ref ida 0, .ref ids 0] S fun v σ' => v = .bool (!f x || noneF (.mk k1 i1) x) ∧ σ' = S := by
 obtain ⟨n, m, s, c, w⟩ := x
 refine mcalls_body Tryz.func73 rfl Tryz.ntmps73 (Nat.le_of_ble_eq_true rfl) ?_
 refine mwp_seq <| qR rfl <| qB rfl rfl rfl rfl rfl <| qA rfl rfl rfl <| qN <| mwp_seq ?_
 refine mwp_draw [] [_] mo (by decide) rfl rfl rfl rfl ?_
 refine dOps_op rfl rfl (.cons (op_load_far rfl rfl hA ta75 rfl ⟨rfl, rfl⟩) .nil) ?_
 refine dO rfl rfl rfl (op_load' rfl rfl rfl ta30 rfl ⟨rfl, rfl⟩) <| dOps_op rfl rfl (.cons (op_call rfl rfl rfl co70 (is1v_spec k k1 i1 rest f ih (.mk n m s c w) hx ids _ (get_app hS))) .nil) <| dO rfl rfl rfl (op_not rfl rfl ⟨rfl, rfl⟩) <| dO rfl rfl rfl (op_move rfl rfl ⟨rfl, rfl⟩) ?_
 refine dOps_case (fun h9 => ?_) (fun h9 => ?_)
 ·
  refine dS rfl rfl <| dS rfl rfl <| dS rfl rfl <| dS rfl rfl <| dS rfl rfl <| dS rfl rfl <| dO rfl rfl rfl (op_pick rfl rfl rfl ⟨rfl, rfl⟩) <| dO rfl rfl rfl (op_assign rfl rfl ⟨rfl, rfl⟩) <| dOps_nil <| mwp_ret ?_
  exact ret_tmp (.inr rfl) Tryz.results73 rfl (.of_eq (by simp_all)) (.bool _) ⟨rfl, rfl⟩
 ·
  refine dO rfl rfl rfl (op_fieldAddr_ref rfl rfl fo24_1 ⟨rfl, rfl⟩) <| dO rfl rfl rfl (op_load_far rfl rfl hS ta22 rfl ⟨rfl, rfl⟩) <| dO rfl rfl rfl (op_indexAddr rfl Tryz.underlying22 sz24 (by decide) rfl rfl rfl (show _ = some (encS (.mk k1 i1)) from rfl) ⟨rfl, rfl⟩) ?_
  refine dO rfl rfl rfl (op_load_sptr rfl rfl ta24 rfl ⟨rfl, rfl⟩) <| dO rfl rfl rfl (op_load' rfl rfl rfl ta30 rfl ⟨rfl, rfl⟩) <| dOps_op rfl rfl (.cons (op_call rfl rfl rfl co46 (None_spec (.mk k1 i1) (.mk n m s c w) _)) .nil) <| dO rfl rfl rfl (op_pick rfl rfl rfl ⟨rfl, rfl⟩) <| dO rfl rfl rfl (op_assign rfl rfl ⟨rfl, rfl⟩) <| dOps_nil <| mwp_ret ?_
  exact ret_tmp (.inr rfl) Tryz.results73 rfl (.of_eq (by simp_all)) (.bool _) ⟨rfl, rfl⟩
theorem is3v_spec (k k1 : Int) (i1 rest : List Sch) (f : Val → Bool) (ih : ∀ x, okV x → ∀ S : MS, MCalls Tryz.prog 44 [encS (.mk k1 i1), encV x] S fun v σ' => v = .bool (f x) ∧ σ' = S) (x : Val) (hx : okV x) (ida ids : Nat) (S : MS) (hA : S[ida]? = some (.cells [.fn (.func 70) [] [.ref ids 0]])) (hS : S[ids]? = some (.cells [.int .i64 k, .lst none 2 (encSs (.mk k1 i1 :: rest))])) : MCalls Tryz.prog 77 [encV x, .ref ida 0] S fun v σ' => v = .bool (!f x) ∧ σ' = S := by
 obtain ⟨n, m, s, c, w⟩ := x
 refine mcalls_body Tryz.func77 rfl Tryz.ntmps77 (Nat.le_of_ble_eq_true rfl) ?_
 refine mwp_seq <| qR rfl <| qB rfl rfl rfl rfl rfl <| qA rfl rfl rfl <| qN <| mwp_seq <| qR rfl <| qO rfl <| op_load_far rfl rfl hA ta75 rfl <| qL rfl rfl rfl rfl ta30 rfl ?_
 refine wOps_op rfl (op_call rfl rfl rfl co70 ((is1v_spec k k1 i1 rest f ih (.mk n m s c w) hx ids _ (get_app hS)).mono ?_))
 rintro _ _ ⟨rfl, rfl⟩
 refine qO rfl <| op_not rfl rfl <| qA rfl rfl rfl <| qN <| mwp_ret ?_
 exact ret_tmp (.inr rfl) Tryz.results77 rfl (.of_eq (rfl)) (.bool _) ⟨rfl, rfl⟩
theorem isV_spec (d : Nat) : ∀ (s : Sch), isF d s = true → ∀ x : Val, okV x → ∀ S : MS, MCalls Tryz.prog 44 [encS s, encV x] S fun v σ' => v = .bool (isVF s x) ∧ σ' = S := by
 induction d with
 | zero => intro s h; simp [isF] at h
 | succ d ih =>
 rintro ⟨k, ins⟩ hd ⟨n, m, s, c, w⟩ hv S
 rw [isF] at hd
 simp only [Bool.and_eq_true, List.all_eq_true, beq_iff_eq] at hd
 simp only [okV] at hv
 have hvs := okVs_iff.1 hv.2.2.2
 rcases k8_of hd.1 with rfl | rfl | rfl | rfl | rfl | rfl | rfl | rfl
 ·
  refine mcalls_body Tryz.func44 rfl Tryz.ntmps44 (Nat.le_of_ble_eq_true rfl) ?_
  refine mwp_seq <| qR rfl <| qB rfl rfl rfl rfl rfl <| qB rfl rfl rfl rfl rfl <| qA rfl rfl rfl <| qN <| mwp_seq <| mwp_seq <| qR rfl <| qF rfl rfl rfl fo24_0 <| qL rfl rfl rfl rfl ta3 rfl <| qL rfl rfl rfl rfl ta30 rfl ?_
  refine wOps_op rfl (op_call rfl rfl rfl co69 ((bare_spec 1 (by omega) n m s c w _).mono ?_))
  rintro _ _ ⟨rfl, rfl⟩
  refine qO rfl <| op_not rfl rfl <| qM rfl rfl rfl ?_
  refine wOps_case (fun h11 => ?_) (fun h11 => ?_)
  ·
   refine qS rfl <| qS rfl <| qS rfl <| qS rfl <| qP rfl rfl rfl rfl <| qM rfl rfl rfl <| qS rfl <| qS rfl <| qS rfl <| qS rfl <| qP rfl rfl rfl rfl <| qN <| mwp_cond_t rfl (rfl) <| mwp_seq <| qR rfl <| qA rfl rfl rfl <| qN <| mwp_ret ?_
   exact ret_tmp (.inr rfl) Tryz.results44 rfl (.of_eq (by rw [isVF_mk 1]; congr 1; symm; first | (rw [show bareF 1 _ = false by simpa using h11]; rfl) | (rw [w40f]; simp; done) | (rw [c40f]; simp; done))) (.bool _) ⟨rfl, rfl⟩
  ·
   refine qF rfl rfl rfl fo30_4 <| qL rfl rfl rfl rfl ta28 rfl <| qE rfl rfl Tryz.underlying28 rfl <| qC rfl rfl rfl rfl rfl <| qP rfl rfl rfl rfl <| qM rfl rfl rfl ?_
   refine wOps_case (fun h17 => ?_) (fun h17 => ?_)
   ·
    have w40f := decide_eq_false (by rw [encVs_length] at h17; simp at h17; omega : ¬ w.length ≤ 40)
    refine qS rfl <| qS rfl <| qS rfl <| qS rfl <| qP rfl rfl rfl rfl <| qN <| mwp_cond_t rfl (rfl) <| mwp_seq <| qR rfl <| qA rfl rfl rfl <| qN <| mwp_ret ?_
    exact ret_tmp (.inr rfl) Tryz.results44 rfl (.of_eq (by rw [isVF_mk 1]; congr 1; symm; first | (rw [show bareF 1 _ = false by simpa using h11]; rfl) | (rw [w40f]; simp; done) | (rw [c40f]; simp; done))) (.bool _) ⟨rfl, rfl⟩
   ·
    have w40t := decide_eq_true (by rw [encVs_length] at h17; simp at h17; omega : w.length ≤ 40)
    refine qF rfl rfl rfl fo30_3 <| qL rfl rfl rfl rfl ta27 rfl <| qE rfl rfl Tryz.underlying27 rfl <| qC rfl rfl rfl rfl rfl <| qP rfl rfl rfl rfl <| qN ?_
    refine mwp_cond_split rfl (fun h22 => ?_) (fun h22 => ?_)
    ·
     have c40f := decide_eq_false (by rw [List.length_map] at h22; simp at h22; omega : ¬ c.length ≤ 40)
     refine mwp_seq <| qR rfl <| qA rfl rfl rfl <| qN <| mwp_ret ?_
     exact ret_tmp (.inr rfl) Tryz.results44 rfl (.of_eq (by rw [isVF_mk 1]; congr 1; symm; first | (rw [show bareF 1 _ = false by simpa using h11]; rfl) | (rw [w40f]; simp; done) | (rw [c40f]; simp; done))) (.bool _) ⟨rfl, rfl⟩
    ·
     have c40t := decide_eq_true (by rw [List.length_map] at h22; simp at h22; omega : c.length ≤ 40)
     refine mwp_skip <| mwp_seq <| qR rfl <| qO rfl <| op_makeFunc rfl rfl rfl <| qO rfl <| op_alloc' rfl zm75 rfl rfl <| qO rfl <| op_store' rfl rfl rfl rfl sz75 rfl rfl (Nat.le_of_ble_eq_true rfl) rfl <| qN <| mwp_seq <| mwp_seq <| qR rfl <| qF rfl rfl rfl fo24_0 <| qL rfl rfl rfl rfl ta3 rfl <| qN <| mwp_block <| mwp_seq <| qR rfl <| qC rfl rfl rfl rfl rfl <| qA rfl rfl rfl <| qN <| mwp_cond_t rfl (rfl) <| mwp_seq <| qR rfl <| qA rfl rfl rfl ?_
     refine qN <| mwp_ret ?_
     exact ret_tmp (.inr rfl) Tryz.results44 rfl (.of_eq (by rw [isVF_mk 1]; rw [show bareF 1 _ = true by simpa using h11, w40t, c40t]; simp only [Bool.true_and, isVL, List.headD_cons, List.tail_cons]; rfl)) (.bool _) ⟨rfl, rfl⟩
 ·
  refine mcalls_body Tryz.func44 rfl Tryz.ntmps44 (Nat.le_of_ble_eq_true rfl) ?_
  refine mwp_seq <| qR rfl <| qB rfl rfl rfl rfl rfl <| qB rfl rfl rfl rfl rfl <| qA rfl rfl rfl <| qN <| mwp_seq <| mwp_seq <| qR rfl <| qF rfl rfl rfl fo24_0 <| qL rfl rfl rfl rfl ta3 rfl <| qL rfl rfl rfl rfl ta30 rfl ?_
  refine wOps_op rfl (op_call rfl rfl rfl co69 ((bare_spec 2 (by omega) n m s c w _).mono ?_))
  rintro _ _ ⟨rfl, rfl⟩
  refine qO rfl <| op_not rfl rfl <| qM rfl rfl rfl ?_
  refine wOps_case (fun h11 => ?_) (fun h11 => ?_)
  ·
   refine qS rfl <| qS rfl <| qS rfl <| qS rfl <| qP rfl rfl rfl rfl <| qM rfl rfl rfl <| qS rfl <| qS rfl <| qS rfl <| qS rfl <| qP rfl rfl rfl rfl <| qN <| mwp_cond_t rfl (rfl) <| mwp_seq <| qR rfl <| qA rfl rfl rfl <| qN <| mwp_ret ?_
   exact ret_tmp (.inr rfl) Tryz.results44 rfl (.of_eq (by rw [isVF_mk 2]; congr 1; symm; first | (rw [show bareF 2 _ = false by simpa using h11]; rfl) | (rw [w40f]; simp; done) | (rw [c40f]; simp; done))) (.bool _) ⟨rfl, rfl⟩
  ·
   refine qF rfl rfl rfl fo30_4 <| qL rfl rfl rfl rfl ta28 rfl <| qE rfl rfl Tryz.underlying28 rfl <| qC rfl rfl rfl rfl rfl <| qP rfl rfl rfl rfl <| qM rfl rfl rfl ?_
   refine wOps_case (fun h17 => ?_) (fun h17 => ?_)
   ·
    have w40f := decide_eq_false (by rw [encVs_length] at h17; simp at h17; omega : ¬ w.length ≤ 40)
    refine qS rfl <| qS rfl <| qS rfl <| qS rfl <| qP rfl rfl rfl rfl <| qN <| mwp_cond_t rfl (rfl) <| mwp_seq <| qR rfl <| qA rfl rfl rfl <| qN <| mwp_ret ?_
    exact ret_tmp (.inr rfl) Tryz.results44 rfl (.of_eq (by rw [isVF_mk 2]; congr 1; symm; first | (rw [show bareF 2 _ = false by simpa using h11]; rfl) | (rw [w40f]; simp; done) | (rw [c40f]; simp; done))) (.bool _) ⟨rfl, rfl⟩
   ·
    have w40t := decide_eq_true (by rw [encVs_length] at h17; simp at h17; omega : w.length ≤ 40)
    refine qF rfl rfl rfl fo30_3 <| qL rfl rfl rfl rfl ta27 rfl <| qE rfl rfl Tryz.underlying27 rfl <| qC rfl rfl rfl rfl rfl <| qP rfl rfl rfl rfl <| qN ?_
    refine mwp_cond_split rfl (fun h22 => ?_) (fun h22 => ?_)
    ·
     have c40f := decide_eq_false (by rw [List.length_map] at h22; simp at h22; omega : ¬ c.length ≤ 40)
     refine mwp_seq <| qR rfl <| qA rfl rfl rfl <| qN <| mwp_ret ?_
     exact ret_tmp (.inr rfl) Tryz.results44 rfl (.of_eq (by rw [isVF_mk 2]; congr 1; symm; first | (rw [show bareF 2 _ = false by simpa using h11]; rfl) | (rw [w40f]; simp; done) | (rw [c40f]; simp; done))) (.bool _) ⟨rfl, rfl⟩
    ·
     have c40t := decide_eq_true (by rw [List.length_map] at h22; simp at h22; omega : c.length ≤ 40)
     refine mwp_skip <| mwp_seq <| qR rfl <| qO rfl <| op_makeFunc rfl rfl rfl <| qO rfl <| op_alloc' rfl zm75 rfl rfl <| qO rfl <| op_store' rfl rfl rfl rfl sz75 rfl rfl (Nat.le_of_ble_eq_true rfl) rfl <| qN <| mwp_seq <| mwp_seq <| qR rfl <| qF rfl rfl rfl fo24_0 <| qL rfl rfl rfl rfl ta3 rfl <| qN <| mwp_block <| mwp_seq <| qR rfl <| qC rfl rfl rfl rfl rfl <| qA rfl rfl rfl <| qN <| mwp_cond_f rfl (rfl) <| mwp_seq <| qR rfl <| qC rfl rfl rfl rfl rfl ?_
     refine qA rfl rfl rfl <| qN <| mwp_cond_t rfl (rfl) <| mwp_seq <| qR rfl <| qF rfl rfl rfl fo30_0 <| qL rfl rfl rfl rfl ta25 rfl <| qC rfl rfl rfl rfl rfl <| qA rfl rfl rfl <| qN <| mwp_ret ?_
     exact ret_tmp (.inr rfl) Tryz.results44 rfl (.of_eq (by rw [isVF_mk 2]; rw [show bareF 2 _ = true by simpa using h11, w40t, c40t]; simp only [Bool.true_and, isVL, List.headD_cons, List.tail_cons]; rfl)) (.bool _) ⟨rfl, rfl⟩
 ·
  refine mcalls_body Tryz.func44 rfl Tryz.ntmps44 (Nat.le_of_ble_eq_true rfl) ?_
  refine mwp_seq <| qR rfl <| qB rfl rfl rfl rfl rfl <| qB rfl rfl rfl rfl rfl <| qA rfl rfl rfl <| qN <| mwp_seq <| mwp_seq <| qR rfl <| qF rfl rfl rfl fo24_0 <| qL rfl rfl rfl rfl ta3 rfl <| qL rfl rfl rfl rfl ta30 rfl ?_
  refine wOps_op rfl (op_call rfl rfl rfl co69 ((bare_spec 3 (by omega) n m s c w _).mono ?_))
  rintro _ _ ⟨rfl, rfl⟩
  refine qO rfl <| op_not rfl rfl <| qM rfl rfl rfl ?_
  refine wOps_case (fun h11 => ?_) (fun h11 => ?_)
  ·
   refine qS rfl <| qS rfl <| qS rfl <| qS rfl <| qP rfl rfl rfl rfl <| qM rfl rfl rfl <| qS rfl <| qS rfl <| qS rfl <| qS rfl <| qP rfl rfl rfl rfl <| qN <| mwp_cond_t rfl (rfl) <| mwp_seq <| qR rfl <| qA rfl rfl rfl <| qN <| mwp_ret ?_
   exact ret_tmp (.inr rfl) Tryz.results44 rfl (.of_eq (by rw [isVF_mk 3]; congr 1; symm; first | (rw [show bareF 3 _ = false by simpa using h11]; rfl) | (rw [w40f]; simp; done) | (rw [c40f]; simp; done))) (.bool _) ⟨rfl, rfl⟩
  ·
   refine qF rfl rfl rfl fo30_4 <| qL rfl rfl rfl rfl ta28 rfl <| qE rfl rfl Tryz.underlying28 rfl <| qC rfl rfl rfl rfl rfl <| qP rfl rfl rfl rfl <| qM rfl rfl rfl ?_
   refine wOps_case (fun h17 => ?_) (fun h17 => ?_)
   ·
    have w40f := decide_eq_false (by rw [encVs_length] at h17; simp at h17; omega : ¬ w.length ≤ 40)
    refine qS rfl <| qS rfl <| qS rfl <| qS rfl <| qP rfl rfl rfl rfl <| qN <| mwp_cond_t rfl (rfl) <| mwp_seq <| qR rfl <| qA rfl rfl rfl <| qN <| mwp_ret ?_
    exact ret_tmp (.inr rfl) Tryz.results44 rfl (.of_eq (by rw [isVF_mk 3]; congr 1; symm; first | (rw [show bareF 3 _ = false by simpa using h11]; rfl) | (rw [w40f]; simp; done) | (rw [c40f]; simp; done))) (.bool _) ⟨rfl, rfl⟩
   ·
    have w40t := decide_eq_true (by rw [encVs_length] at h17; simp at h17; omega : w.length ≤ 40)
    refine qF rfl rfl rfl fo30_3 <| qL rfl rfl rfl rfl ta27 rfl <| qE rfl rfl Tryz.underlying27 rfl <| qC rfl rfl rfl rfl rfl <| qP rfl rfl rfl rfl <| qN ?_
    refine mwp_cond_split rfl (fun h22 => ?_) (fun h22 => ?_)
    ·
     have c40f := decide_eq_false (by rw [List.length_map] at h22; simp at h22; omega : ¬ c.length ≤ 40)
     refine mwp_seq <| qR rfl <| qA rfl rfl rfl <| qN <| mwp_ret ?_
     exact ret_tmp (.inr rfl) Tryz.results44 rfl (.of_eq (by rw [isVF_mk 3]; congr 1; symm; first | (rw [show bareF 3 _ = false by simpa using h11]; rfl) | (rw [w40f]; simp; done) | (rw [c40f]; simp; done))) (.bool _) ⟨rfl, rfl⟩
    ·
     have c40t := decide_eq_true (by rw [List.length_map] at h22; simp at h22; omega : c.length ≤ 40)
     refine mwp_skip <| mwp_seq <| qR rfl <| qO rfl <| op_makeFunc rfl rfl rfl <| qO rfl <| op_alloc' rfl zm75 rfl rfl <| qO rfl <| op_store' rfl rfl rfl rfl sz75 rfl rfl (Nat.le_of_ble_eq_true rfl) rfl <| qN <| mwp_seq <| mwp_seq <| qR rfl <| qF rfl rfl rfl fo24_0 <| qL rfl rfl rfl rfl ta3 rfl <| qN <| mwp_block <| mwp_seq <| qR rfl <| qC rfl rfl rfl rfl rfl <| qA rfl rfl rfl <| qN <| mwp_cond_f rfl (rfl) <| mwp_seq <| qR rfl <| qC rfl rfl rfl rfl rfl ?_
     refine qA rfl rfl rfl <| qN <| mwp_cond_f rfl (rfl) <| mwp_seq <| qR rfl <| qC rfl rfl rfl rfl rfl <| qA rfl rfl rfl <| qN <| mwp_cond_t rfl (rfl) <| mwp_seq <| qR rfl <| qF rfl rfl rfl fo30_2 <| qL rfl rfl rfl rfl ta26 rfl ?_
     refine wOps_op rfl (op_call rfl rfl rfl co71 ((isRow_spec s _).mono ?_))
     rintro _ _ ⟨rfl, rfl⟩
     refine qA rfl rfl rfl <| qN <| mwp_ret ?_
     exact ret_tmp (.inr rfl) Tryz.results44 rfl (.of_eq (by rw [isVF_mk 3]; rw [show bareF 3 _ = true by simpa using h11, w40t, c40t]; simp only [Bool.true_and, isVL, List.headD_cons, List.tail_cons]; rfl)) (.bool _) ⟨rfl, rfl⟩
 ·
  obtain ⟨⟨k1, i1⟩, rfl⟩ := one_ins hd.1 (by decide)
  have ih1 := ih (.mk k1 i1) (hd.2 _ (by simp))
  refine mcalls_body Tryz.func44 rfl Tryz.ntmps44 (Nat.le_of_ble_eq_true rfl) ?_
  refine mwp_seq <| qR rfl <| qB rfl rfl rfl rfl rfl <| qB rfl rfl rfl rfl rfl <| qA rfl rfl rfl <| qN <| mwp_seq <| mwp_seq <| qR rfl <| qF rfl rfl rfl fo24_0 <| qL rfl rfl rfl rfl ta3 rfl <| qL rfl rfl rfl rfl ta30 rfl ?_
  refine wOps_op rfl (op_call rfl rfl rfl co69 ((bare_spec 4 (by omega) n m s c w _).mono ?_))
  rintro _ _ ⟨rfl, rfl⟩
  refine qO rfl <| op_not rfl rfl <| qM rfl rfl rfl ?_
  refine wOps_case (fun h11 => ?_) (fun h11 => ?_)
  ·
   refine qS rfl <| qS rfl <| qS rfl <| qS rfl <| qP rfl rfl rfl rfl <| qM rfl rfl rfl <| qS rfl <| qS rfl <| qS rfl <| qS rfl <| qP rfl rfl rfl rfl <| qN <| mwp_cond_t rfl (rfl) <| mwp_seq <| qR rfl <| qA rfl rfl rfl <| qN <| mwp_ret ?_
   exact ret_tmp (.inr rfl) Tryz.results44 rfl (.of_eq (by rw [isVF_mk 4]; congr 1; symm; first | (rw [show bareF 4 _ = false by simpa using h11]; rfl) | (rw [w40f]; simp; done) | (rw [c40f]; simp; done))) (.bool _) ⟨rfl, rfl⟩
  ·
   refine qF rfl rfl rfl fo30_4 <| qL rfl rfl rfl rfl ta28 rfl <| qE rfl rfl Tryz.underlying28 rfl <| qC rfl rfl rfl rfl rfl <| qP rfl rfl rfl rfl <| qM rfl rfl rfl ?_
   refine wOps_case (fun h17 => ?_) (fun h17 => ?_)
   ·
    have w40f := decide_eq_false (by rw [encVs_length] at h17; simp at h17; omega : ¬ w.length ≤ 40)
    refine qS rfl <| qS rfl <| qS rfl <| qS rfl <| qP rfl rfl rfl rfl <| qN <| mwp_cond_t rfl (rfl) <| mwp_seq <| qR rfl <| qA rfl rfl rfl <| qN <| mwp_ret ?_
    exact ret_tmp (.inr rfl) Tryz.results44 rfl (.of_eq (by rw [isVF_mk 4]; congr 1; symm; first | (rw [show bareF 4 _ = false by simpa using h11]; rfl) | (rw [w40f]; simp; done) | (rw [c40f]; simp; done))) (.bool _) ⟨rfl, rfl⟩
   ·
    have w40t := decide_eq_true (by rw [encVs_length] at h17; simp at h17; omega : w.length ≤ 40)
    refine qF rfl rfl rfl fo30_3 <| qL rfl rfl rfl rfl ta27 rfl <| qE rfl rfl Tryz.underlying27 rfl <| qC rfl rfl rfl rfl rfl <| qP rfl rfl rfl rfl <| qN ?_
    refine mwp_cond_split rfl (fun h22 => ?_) (fun h22 => ?_)
    ·
     have c40f := decide_eq_false (by rw [List.length_map] at h22; simp at h22; omega : ¬ c.length ≤ 40)
     refine mwp_seq <| qR rfl <| qA rfl rfl rfl <| qN <| mwp_ret ?_
     exact ret_tmp (.inr rfl) Tryz.results44 rfl (.of_eq (by rw [isVF_mk 4]; congr 1; symm; first | (rw [show bareF 4 _ = false by simpa using h11]; rfl) | (rw [w40f]; simp; done) | (rw [c40f]; simp; done))) (.bool _) ⟨rfl, rfl⟩
    ·
     have c40t := decide_eq_true (by rw [List.length_map] at h22; simp at h22; omega : c.length ≤ 40)
     refine mwp_skip <| mwp_seq <| qR rfl <| qO rfl <| op_makeFunc rfl rfl rfl <| qO rfl <| op_alloc' rfl zm75 rfl rfl <| qO rfl <| op_store' rfl rfl rfl rfl sz75 rfl rfl (Nat.le_of_ble_eq_true rfl) rfl <| qN <| mwp_seq <| mwp_seq <| qR rfl <| qF rfl rfl rfl fo24_0 <| qL rfl rfl rfl rfl ta3 rfl <| qN <| mwp_block <| mwp_seq <| qR rfl <| qC rfl rfl rfl rfl rfl <| qA rfl rfl rfl <| qN <| mwp_cond_f rfl (rfl) <| mwp_seq <| qR rfl <| qC rfl rfl rfl rfl rfl ?_
     refine qA rfl rfl rfl <| qN <| mwp_cond_f rfl (rfl) <| mwp_seq <| qR rfl <| qC rfl rfl rfl rfl rfl <| qA rfl rfl rfl <| qN <| mwp_cond_f rfl (rfl) <| mwp_seq <| qR rfl <| qC rfl rfl rfl rfl rfl <| qA rfl rfl rfl <| qN <| mwp_cond_t rfl (rfl) <| mwp_seq <| qR rfl <| qF rfl rfl rfl fo30_2 <| qL rfl rfl rfl rfl ta26 rfl ?_
     refine wOps_op rfl (op_call rfl rfl rfl co71 ((isRow_spec s _).mono ?_))
     rintro _ _ ⟨rfl, rfl⟩
     refine qM rfl rfl rfl ?_
     refine wOps_case (fun h43 => ?_) (fun h43 => ?_)
     ·
      refine qF rfl rfl rfl fo30_2 <| qL rfl rfl rfl rfl ta26 rfl <| qE rfl rfl Tryz.underlying26 rfl <| qF rfl rfl rfl fo30_4 <| qL rfl rfl rfl rfl ta28 rfl <| qE rfl rfl Tryz.underlying28 rfl <| qC rfl rfl rfl rfl rfl <| qP rfl rfl rfl rfl <| qM rfl rfl rfl ?_
      refine wOps_case (fun h52 => ?_) (fun h52 => ?_)
      ·
       have hsl : s.length = w.length := by rw [List.length_map, encVs_length] at h52; simp at h52; omega
       refine qF rfl rfl rfl fo30_4 <| qL rfl rfl rfl rfl ta28 rfl <| qO rfl <| op_makeFunc rfl rfl rfl ?_
       refine wOps_op rfl (op_call rfl rfl rfl co72 ((vContains_spec _ w (fun x => !isVF (.mk k1 i1) x || noneF (.mk k1 i1) x) _ [] [.ref (S.length + 2) 0, .ref (S.length + 0) 0] co73 (fun x hx X => is2v_spec 4 k1 i1 [] (isVF (.mk k1 i1)) ih1 x (hvs x hx) _ _ _ (get_mid_ (k := 2) rfl) (get_mid_ (k := 0) rfl))).mono ?_))
       rintro _ _ ⟨rfl, rfl⟩
       refine qO rfl <| op_not rfl rfl <| qP rfl rfl rfl rfl <| qA rfl rfl rfl <| qN <| mwp_ret ?_
       exact ret_tmp (.inr rfl) Tryz.results44 rfl (.of_eq (by rw [isVF_mk 4]; rw [show bareF 4 _ = true by simpa using h11, w40t, c40t]; simp only [Bool.true_and, isVL, List.headD_cons, List.tail_cons]; congr 1; rw [Bool.eq_iff_iff]; simp_all [encVs_length, any_all])) (.bool _) ⟨rfl, rfl⟩
      ·
       have hsl : ¬ s.length = w.length := by rw [List.length_map, encVs_length] at h52; simp at h52; omega
       refine qS rfl <| qS rfl <| qS rfl <| qS rfl <| qS rfl <| qP rfl rfl rfl rfl <| qA rfl rfl rfl <| qN <| mwp_ret ?_
       exact ret_tmp (.inr rfl) Tryz.results44 rfl (.of_eq (by rw [isVF_mk 4]; rw [show bareF 4 _ = true by simpa using h11, w40t, c40t]; simp only [Bool.true_and, isVL, List.headD_cons, List.tail_cons]; congr 1; rw [Bool.eq_iff_iff]; simp_all [encVs_length, any_all])) (.bool _) ⟨rfl, rfl⟩
     ·
      refine qS rfl <| qS rfl <| qS rfl <| qS rfl <| qS rfl <| qS rfl <| qS rfl <| qP rfl rfl rfl rfl <| qM rfl rfl rfl <| qS rfl <| qS rfl <| qS rfl <| qS rfl <| qS rfl <| qP rfl rfl rfl rfl <| qA rfl rfl rfl <| qN <| mwp_ret ?_
      exact ret_tmp (.inr rfl) Tryz.results44 rfl (.of_eq (by rw [isVF_mk 4]; rw [show bareF 4 _ = true by simpa using h11, w40t, c40t]; simp only [Bool.true_and, isVL, List.headD_cons, List.tail_cons]; congr 1; rw [Bool.eq_iff_iff]; simp_all [encVs_length, any_all])) (.bool _) ⟨rfl, rfl⟩
 ·
  obtain ⟨⟨k1, i1⟩, ⟨k2, i2⟩, rfl⟩ := two_of hd.1
  have ih1 := ih (.mk k1 i1) (hd.2 _ (by simp))
  have ih2 := ih (.mk k2 i2) (hd.2 _ (by simp))
  refine mcalls_body Tryz.func44 rfl Tryz.ntmps44 (Nat.le_of_ble_eq_true rfl) ?_
  refine mwp_seq <| qR rfl <| qB rfl rfl rfl rfl rfl <| qB rfl rfl rfl rfl rfl <| qA rfl rfl rfl <| qN <| mwp_seq <| mwp_seq <| qR rfl <| qF rfl rfl rfl fo24_0 <| qL rfl rfl rfl rfl ta3 rfl <| qL rfl rfl rfl rfl ta30 rfl ?_
  refine wOps_op rfl (op_call rfl rfl rfl co69 ((bare_spec 5 (by omega) n m s c w _).mono ?_))
  rintro _ _ ⟨rfl, rfl⟩
  refine qO rfl <| op_not rfl rfl <| qM rfl rfl rfl ?_
  refine wOps_case (fun h11 => ?_) (fun h11 => ?_)
  ·
   refine qS rfl <| qS rfl <| qS rfl <| qS rfl <| qP rfl rfl rfl rfl <| qM rfl rfl rfl <| qS rfl <| qS rfl <| qS rfl <| qS rfl <| qP rfl rfl rfl rfl <| qN <| mwp_cond_t rfl (rfl) <| mwp_seq <| qR rfl <| qA rfl rfl rfl <| qN <| mwp_ret ?_
   exact ret_tmp (.inr rfl) Tryz.results44 rfl (.of_eq (by rw [isVF_mk 5]; congr 1; symm; first | (rw [show bareF 5 _ = false by simpa using h11]; rfl) | (rw [w40f]; simp; done) | (rw [c40f]; simp; done))) (.bool _) ⟨rfl, rfl⟩
  ·
   refine qF rfl rfl rfl fo30_4 <| qL rfl rfl rfl rfl ta28 rfl <| qE rfl rfl Tryz.underlying28 rfl <| qC rfl rfl rfl rfl rfl <| qP rfl rfl rfl rfl <| qM rfl rfl rfl ?_
   refine wOps_case (fun h17 => ?_) (fun h17 => ?_)
   ·
    have w40f := decide_eq_false (by rw [encVs_length] at h17; simp at h17; omega : ¬ w.length ≤ 40)
    refine qS rfl <| qS rfl <| qS rfl <| qS rfl <| qP rfl rfl rfl rfl <| qN <| mwp_cond_t rfl (rfl) <| mwp_seq <| qR rfl <| qA rfl rfl rfl <| qN <| mwp_ret ?_
    exact ret_tmp (.inr rfl) Tryz.results44 rfl (.of_eq (by rw [isVF_mk 5]; congr 1; symm; first | (rw [show bareF 5 _ = false by simpa using h11]; rfl) | (rw [w40f]; simp; done) | (rw [c40f]; simp; done))) (.bool _) ⟨rfl, rfl⟩
   ·
    have w40t := decide_eq_true (by rw [encVs_length] at h17; simp at h17; omega : w.length ≤ 40)
    refine qF rfl rfl rfl fo30_3 <| qL rfl rfl rfl rfl ta27 rfl <| qE rfl rfl Tryz.underlying27 rfl <| qC rfl rfl rfl rfl rfl <| qP rfl rfl rfl rfl <| qN ?_
    refine mwp_cond_split rfl (fun h22 => ?_) (fun h22 => ?_)
    ·
     have c40f := decide_eq_false (by rw [List.length_map] at h22; simp at h22; omega : ¬ c.length ≤ 40)
     refine mwp_seq <| qR rfl <| qA rfl rfl rfl <| qN <| mwp_ret ?_
     exact ret_tmp (.inr rfl) Tryz.results44 rfl (.of_eq (by rw [isVF_mk 5]; congr 1; symm; first | (rw [show bareF 5 _ = false by simpa using h11]; rfl) | (rw [w40f]; simp; done) | (rw [c40f]; simp; done))) (.bool _) ⟨rfl, rfl⟩
    ·
     have c40t := decide_eq_true (by rw [List.length_map] at h22; simp at h22; omega : c.length ≤ 40)
     refine mwp_skip <| mwp_seq <| qR rfl <| qO rfl <| op_makeFunc rfl rfl rfl <| qO rfl <| op_alloc' rfl zm75 rfl rfl <| qO rfl <| op_store' rfl rfl rfl rfl sz75 rfl rfl (Nat.le_of_ble_eq_true rfl) rfl <| qN <| mwp_seq <| mwp_seq <| qR rfl <| qF rfl rfl rfl fo24_0 <| qL rfl rfl rfl rfl ta3 rfl <| qN <| mwp_block <| mwp_seq <| qR rfl <| qC rfl rfl rfl rfl rfl <| qA rfl rfl rfl <| qN <| mwp_cond_f rfl (rfl) <| mwp_seq <| qR rfl <| qC rfl rfl rfl rfl rfl ?_
     refine qA rfl rfl rfl <| qN <| mwp_cond_f rfl (rfl) <| mwp_seq <| qR rfl <| qC rfl rfl rfl rfl rfl <| qA rfl rfl rfl <| qN <| mwp_cond_f rfl (rfl) <| mwp_seq <| qR rfl <| qC rfl rfl rfl rfl rfl <| qA rfl rfl rfl <| qN <| mwp_cond_f rfl (rfl) <| mwp_seq <| qR rfl <| qC rfl rfl rfl rfl rfl <| qA rfl rfl rfl <| qN <| mwp_cond_t rfl (rfl) <| mwp_seq ?_
     refine mwp_draw [] [_] mo (by decide) rfl rfl rfl rfl ?_
     refine dO rfl rfl rfl (op_fieldAddr_ref rfl rfl fo30_4 ⟨rfl, rfl⟩) <| dO rfl rfl rfl (op_load' rfl rfl rfl ta28 rfl ⟨rfl, rfl⟩) <| dO rfl rfl rfl (op_len_lst rfl Tryz.underlying28 rfl ⟨rfl, rfl⟩) <| dO rfl rfl rfl (op_cmp rfl rfl rfl rfl ⟨rfl, rfl⟩) <| dO rfl rfl rfl (op_move rfl rfl ⟨rfl, rfl⟩) ?_
     refine dOps_case (fun h65 => ?_) (fun h65 => ?_)
     ·
      obtain ⟨⟨n1, m1, s1, c1, w1⟩, ⟨n2, m2, s2, c2, w2⟩, rfl⟩ := two_of' (by rw [encVs_length] at h65; simp at h65; omega : w.length = 2)
      refine dO rfl rfl rfl (op_fieldAddr_ref rfl rfl fo24_1 ⟨rfl, rfl⟩) <| dO rfl rfl rfl (op_load' rfl rfl rfl ta22 rfl ⟨rfl, rfl⟩) <| dO rfl rfl rfl (op_indexAddr rfl Tryz.underlying22 sz24 (by decide) rfl rfl rfl (show _ = some (encS (.mk k1 i1)) from rfl) ⟨rfl, rfl⟩) ?_
      refine dO rfl rfl rfl (op_load_sptr rfl rfl ta24 rfl ⟨rfl, rfl⟩) <| dO rfl rfl rfl (op_fieldAddr_ref rfl rfl fo30_4 ⟨rfl, rfl⟩) <| dO rfl rfl rfl (op_load' rfl rfl rfl ta28 rfl ⟨rfl, rfl⟩) <| dO rfl rfl rfl (op_indexAddr rfl Tryz.underlying28 sz30 (by decide) rfl rfl rfl (show _ = some (encV (.mk n1 m1 s1 c1 w1)) from rfl) ⟨rfl, rfl⟩) ?_
      refine dO rfl rfl rfl (op_load_sptr rfl rfl ta30 rfl ⟨rfl, rfl⟩) <| dOps_op rfl rfl (.cons (op_call rfl rfl rfl co44 (ih1 (.mk n1 m1 s1 c1 w1) (hvs _ (by simp)) _)) .nil) ?_
      refine dO rfl rfl rfl (op_pick rfl rfl rfl ⟨rfl, rfl⟩) <| dO rfl rfl rfl (op_move rfl rfl ⟨rfl, rfl⟩) ?_
      refine dOps_case (fun h76 => ?_) (fun h76 => ?_)
      ·
       refine dO rfl rfl rfl (op_fieldAddr_ref rfl rfl fo24_1 ⟨rfl, rfl⟩) <| dO rfl rfl rfl (op_load' rfl rfl rfl ta22 rfl ⟨rfl, rfl⟩) <| dO rfl rfl rfl (op_indexAddr rfl Tryz.underlying22 sz24 (by decide) rfl rfl rfl (show _ = some (encS (.mk k2 i2)) from rfl) ⟨rfl, rfl⟩) ?_
       refine dO rfl rfl rfl (op_load_sptr rfl rfl ta24 rfl ⟨rfl, rfl⟩) <| dO rfl rfl rfl (op_fieldAddr_ref rfl rfl fo30_4 ⟨rfl, rfl⟩) <| dO rfl rfl rfl (op_load' rfl rfl rfl ta28 rfl ⟨rfl, rfl⟩) <| dO rfl rfl rfl (op_indexAddr rfl Tryz.underlying28 sz30 (by decide) rfl rfl rfl (show _ = some (encV (.mk n2 m2 s2 c2 w2)) from rfl) ⟨rfl, rfl⟩) ?_
       refine dO rfl rfl rfl (op_load_sptr rfl rfl ta30 rfl ⟨rfl, rfl⟩) <| dOps_op rfl rfl (.cons (op_call rfl rfl rfl co44 (ih2 (.mk n2 m2 s2 c2 w2) (hvs _ (by simp)) _)) .nil) ?_
       refine dO rfl rfl rfl (op_pick rfl rfl rfl ⟨rfl, rfl⟩) <| dO rfl rfl rfl (op_assign rfl rfl ⟨rfl, rfl⟩) <| dOps_nil <| mwp_ret ?_
       exact ret_tmp (.inr rfl) Tryz.results44 rfl (.of_eq (by rw [isVF_mk 5]; rw [show bareF 5 _ = true by simpa using h11, w40t, c40t]; simp only [Bool.true_and, isVL, List.headD_cons, List.tail_cons]; first | (congr 1; symm; rw [if_neg (by decide), if_neg (by decide), if_neg (by decide), if_neg (by decide), if_pos True.intro]; exact hm2) | (congr 1; rw [Bool.eq_iff_iff]; simp_all [encVs_length]))) (.bool _) ⟨rfl, rfl⟩
      ·
       refine dS rfl rfl <| dS rfl rfl <| dS rfl rfl <| dS rfl rfl <| dS rfl rfl <| dS rfl rfl <| dS rfl rfl <| dS rfl rfl <| dS rfl rfl <| dO rfl rfl rfl (op_pick rfl rfl rfl ⟨rfl, rfl⟩) <| dO rfl rfl rfl (op_assign rfl rfl ⟨rfl, rfl⟩) <| dOps_nil <| mwp_ret ?_
       exact ret_tmp (.inr rfl) Tryz.results44 rfl (.of_eq (by rw [isVF_mk 5]; rw [show bareF 5 _ = true by simpa using h11, w40t, c40t]; simp only [Bool.true_and, isVL, List.headD_cons, List.tail_cons]; first | (congr 1; symm; rw [if_neg (by decide), if_neg (by decide), if_neg (by decide), if_neg (by decide), if_pos True.intro]; exact hm2) | (congr 1; rw [Bool.eq_iff_iff]; simp_all [encVs_length]))) (.bool _) ⟨rfl, rfl⟩
     ·
      have hm2 := match2_no (f := isVF (.mk k1 i1)) (g := isVF (.mk k2 i2)) (by rw [encVs_length] at h65; simp at h65; omega : w.length ≠ 2)
      refine dS rfl rfl <| dS rfl rfl <| dS rfl rfl <| dS rfl rfl <| dS rfl rfl <| dS rfl rfl <| dS rfl rfl <| dS rfl rfl <| dS rfl rfl <| dO rfl rfl rfl (op_pick rfl rfl rfl ⟨rfl, rfl⟩) <| dO rfl rfl rfl (op_move rfl rfl ⟨rfl, rfl⟩) <| dS rfl rfl <| dS rfl rfl <| dS rfl rfl <| dS rfl rfl <| dS rfl rfl <| dS rfl rfl <| dS rfl rfl <| dS rfl rfl <| dS rfl rfl <| dO rfl rfl rfl (op_pick rfl rfl rfl ⟨rfl, rfl⟩) <| dO rfl rfl rfl (op_assign rfl rfl ⟨rfl, rfl⟩) <| dOps_nil <| mwp_ret ?_
      exact ret_tmp (.inr rfl) Tryz.results44 rfl (.of_eq (by rw [isVF_mk 5]; rw [show bareF 5 _ = true by simpa using h11, w40t, c40t]; simp only [Bool.true_and, isVL, List.headD_cons, List.tail_cons]; first | (congr 1; symm; rw [if_neg (by decide), if_neg (by decide), if_neg (by decide), if_neg (by decide), if_pos True.intro]; exact hm2) | (congr 1; rw [Bool.eq_iff_iff]; simp_all [encVs_length]))) (.bool _) ⟨rfl, rfl⟩
 ·
  refine mcalls_body Tryz.func44 rfl Tryz.ntmps44 (Nat.le_of_ble_eq_true rfl) ?_
  refine mwp_seq <| qR rfl <| qB rfl rfl rfl rfl rfl <| qB rfl rfl rfl rfl rfl <| qA rfl rfl rfl <| qN <| mwp_seq <| mwp_seq <| qR rfl <| qF rfl rfl rfl fo24_0 <| qL rfl rfl rfl rfl ta3 rfl <| qL rfl rfl rfl rfl ta30 rfl ?_
  refine wOps_op rfl (op_call rfl rfl rfl co69 ((bare_spec 6 (by omega) n m s c w _).mono ?_))
  rintro _ _ ⟨rfl, rfl⟩
  refine qO rfl <| op_not rfl rfl <| qM rfl rfl rfl ?_
  refine wOps_case (fun h11 => ?_) (fun h11 => ?_)
  ·
   refine qS rfl <| qS rfl <| qS rfl <| qS rfl <| qP rfl rfl rfl rfl <| qM rfl rfl rfl <| qS rfl <| qS rfl <| qS rfl <| qS rfl <| qP rfl rfl rfl rfl <| qN <| mwp_cond_t rfl (rfl) <| mwp_seq <| qR rfl <| qA rfl rfl rfl <| qN <| mwp_ret ?_
   exact ret_tmp (.inr rfl) Tryz.results44 rfl (.of_eq (by rw [isVF_mk 6]; congr 1; symm; first | (rw [show bareF 6 _ = false by simpa using h11]; rfl) | (rw [w40f]; simp; done) | (rw [c40f]; simp; done))) (.bool _) ⟨rfl, rfl⟩
  ·
   refine qF rfl rfl rfl fo30_4 <| qL rfl rfl rfl rfl ta28 rfl <| qE rfl rfl Tryz.underlying28 rfl <| qC rfl rfl rfl rfl rfl <| qP rfl rfl rfl rfl <| qM rfl rfl rfl ?_
   refine wOps_case (fun h17 => ?_) (fun h17 => ?_)
   ·
    have w40f := decide_eq_false (by rw [encVs_length] at h17; simp at h17; omega : ¬ w.length ≤ 40)
    refine qS rfl <| qS rfl <| qS rfl <| qS rfl <| qP rfl rfl rfl rfl <| qN <| mwp_cond_t rfl (rfl) <| mwp_seq <| qR rfl <| qA rfl rfl rfl <| qN <| mwp_ret ?_
    exact ret_tmp (.inr rfl) Tryz.results44 rfl (.of_eq (by rw [isVF_mk 6]; congr 1; symm; first | (rw [show bareF 6 _ = false by simpa using h11]; rfl) | (rw [w40f]; simp; done) | (rw [c40f]; simp; done))) (.bool _) ⟨rfl, rfl⟩
   ·
    have w40t := decide_eq_true (by rw [encVs_length] at h17; simp at h17; omega : w.length ≤ 40)
    refine qF rfl rfl rfl fo30_3 <| qL rfl rfl rfl rfl ta27 rfl <| qE rfl rfl Tryz.underlying27 rfl <| qC rfl rfl rfl rfl rfl <| qP rfl rfl rfl rfl <| qN ?_
    refine mwp_cond_split rfl (fun h22 => ?_) (fun h22 => ?_)
    ·
     have c40f := decide_eq_false (by rw [List.length_map] at h22; simp at h22; omega : ¬ c.length ≤ 40)
     refine mwp_seq <| qR rfl <| qA rfl rfl rfl <| qN <| mwp_ret ?_
     exact ret_tmp (.inr rfl) Tryz.results44 rfl (.of_eq (by rw [isVF_mk 6]; congr 1; symm; first | (rw [show bareF 6 _ = false by simpa using h11]; rfl) | (rw [w40f]; simp; done) | (rw [c40f]; simp; done))) (.bool _) ⟨rfl, rfl⟩
    ·
     have c40t := decide_eq_true (by rw [List.length_map] at h22; simp at h22; omega : c.length ≤ 40)
     refine mwp_skip <| mwp_seq <| qR rfl <| qO rfl <| op_makeFunc rfl rfl rfl <| qO rfl <| op_alloc' rfl zm75 rfl rfl <| qO rfl <| op_store' rfl rfl rfl rfl sz75 rfl rfl (Nat.le_of_ble_eq_true rfl) rfl <| qN <| mwp_seq <| mwp_seq <| qR rfl <| qF rfl rfl rfl fo24_0 <| qL rfl rfl rfl rfl ta3 rfl <| qN <| mwp_block <| mwp_seq <| qR rfl <| qC rfl rfl rfl rfl rfl <| qA rfl rfl rfl <| qN <| mwp_cond_f rfl (rfl) <| mwp_seq <| qR rfl <| qC rfl rfl rfl rfl rfl ?_
     refine qA rfl rfl rfl <| qN <| mwp_cond_f rfl (rfl) <| mwp_seq <| qR rfl <| qC rfl rfl rfl rfl rfl <| qA rfl rfl rfl <| qN <| mwp_cond_f rfl (rfl) <| mwp_seq <| qR rfl <| qC rfl rfl rfl rfl rfl <| qA rfl rfl rfl <| qN <| mwp_cond_f rfl (rfl) <| mwp_seq <| qR rfl <| qC rfl rfl rfl rfl rfl <| qA rfl rfl rfl <| qN <| mwp_cond_f rfl (rfl) <| mwp_seq <| qR rfl ?_
     refine qC rfl rfl rfl rfl rfl <| qA rfl rfl rfl <| qN <| mwp_cond_t rfl (rfl) <| mwp_seq <| qR rfl <| qL rfl rfl rfl rfl ta30 rfl ?_
     refine wOps_op rfl (op_call rfl rfl rfl co74 ((isLast_spec n m s c w hv.1.1 hv.2.1.1 _).mono ?_))
     rintro _ _ ⟨rfl, rfl⟩
     refine qA rfl rfl rfl <| qN <| mwp_ret ?_
     exact ret_tmp (.inr rfl) Tryz.results44 rfl (.of_eq (by rw [isVF_mk 6]; rw [show bareF 6 _ = true by simpa using h11, w40t, c40t]; simp only [Bool.true_and, isVL, List.headD_cons, List.tail_cons]; rfl)) (.bool _) ⟨rfl, rfl⟩
 ·
  refine mcalls_body Tryz.func44 rfl Tryz.ntmps44 (Nat.le_of_ble_eq_true rfl) ?_
  refine mwp_seq <| qR rfl <| qB rfl rfl rfl rfl rfl <| qB rfl rfl rfl rfl rfl <| qA rfl rfl rfl <| qN <| mwp_seq <| mwp_seq <| qR rfl <| qF rfl rfl rfl fo24_0 <| qL rfl rfl rfl rfl ta3 rfl <| qL rfl rfl rfl rfl ta30 rfl ?_
  refine wOps_op rfl (op_call rfl rfl rfl co69 ((bare_spec 7 (by omega) n m s c w _).mono ?_))
  rintro _ _ ⟨rfl, rfl⟩
  refine qO rfl <| op_not rfl rfl <| qM rfl rfl rfl ?_
  refine wOps_case (fun h11 => ?_) (fun h11 => ?_)
  ·
   refine qS rfl <| qS rfl <| qS rfl <| qS rfl <| qP rfl rfl rfl rfl <| qM rfl rfl rfl <| qS rfl <| qS rfl <| qS rfl <| qS rfl <| qP rfl rfl rfl rfl <| qN <| mwp_cond_t rfl (rfl) <| mwp_seq <| qR rfl <| qA rfl rfl rfl <| qN <| mwp_ret ?_
   exact ret_tmp (.inr rfl) Tryz.results44 rfl (.of_eq (by rw [isVF_mk 7]; congr 1; symm; first | (rw [show bareF 7 _ = false by simpa using h11]; rfl) | (rw [w40f]; simp; done) | (rw [c40f]; simp; done))) (.bool _) ⟨rfl, rfl⟩
  ·
   refine qF rfl rfl rfl fo30_4 <| qL rfl rfl rfl rfl ta28 rfl <| qE rfl rfl Tryz.underlying28 rfl <| qC rfl rfl rfl rfl rfl <| qP rfl rfl rfl rfl <| qM rfl rfl rfl ?_
   refine wOps_case (fun h17 => ?_) (fun h17 => ?_)
   ·
    have w40f := decide_eq_false (by rw [encVs_length] at h17; simp at h17; omega : ¬ w.length ≤ 40)
    refine qS rfl <| qS rfl <| qS rfl <| qS rfl <| qP rfl rfl rfl rfl <| qN <| mwp_cond_t rfl (rfl) <| mwp_seq <| qR rfl <| qA rfl rfl rfl <| qN <| mwp_ret ?_
    exact ret_tmp (.inr rfl) Tryz.results44 rfl (.of_eq (by rw [isVF_mk 7]; congr 1; symm; first | (rw [show bareF 7 _ = false by simpa using h11]; rfl) | (rw [w40f]; simp; done) | (rw [c40f]; simp; done))) (.bool _) ⟨rfl, rfl⟩
   ·
    have w40t := decide_eq_true (by rw [encVs_length] at h17; simp at h17; omega : w.length ≤ 40)
    refine qF rfl rfl rfl fo30_3 <| qL rfl rfl rfl rfl ta27 rfl <| qE rfl rfl Tryz.underlying27 rfl <| qC rfl rfl rfl rfl rfl <| qP rfl rfl rfl rfl <| qN ?_
    refine mwp_cond_split rfl (fun h22 => ?_) (fun h22 => ?_)
    ·
     have c40f := decide_eq_false (by rw [List.length_map] at h22; simp at h22; omega : ¬ c.length ≤ 40)
     refine mwp_seq <| qR rfl <| qA rfl rfl rfl <| qN <| mwp_ret ?_
     exact ret_tmp (.inr rfl) Tryz.results44 rfl (.of_eq (by rw [isVF_mk 7]; congr 1; symm; first | (rw [show bareF 7 _ = false by simpa using h11]; rfl) | (rw [w40f]; simp; done) | (rw [c40f]; simp; done))) (.bool _) ⟨rfl, rfl⟩
    ·
     have c40t := decide_eq_true (by rw [List.length_map] at h22; simp at h22; omega : c.length ≤ 40)
     refine mwp_skip <| mwp_seq <| qR rfl <| qO rfl <| op_makeFunc rfl rfl rfl <| qO rfl <| op_alloc' rfl zm75 rfl rfl <| qO rfl <| op_store' rfl rfl rfl rfl sz75 rfl rfl (Nat.le_of_ble_eq_true rfl) rfl <| qN <| mwp_seq <| mwp_seq <| qR rfl <| qF rfl rfl rfl fo24_0 <| qL rfl rfl rfl rfl ta3 rfl <| qN <| mwp_block <| mwp_seq <| qR rfl <| qC rfl rfl rfl rfl rfl <| qA rfl rfl rfl <| qN <| mwp_cond_f rfl (rfl) <| mwp_seq <| qR rfl <| qC rfl rfl rfl rfl rfl ?_
     refine qA rfl rfl rfl <| qN <| mwp_cond_f rfl (rfl) <| mwp_seq <| qR rfl <| qC rfl rfl rfl rfl rfl <| qA rfl rfl rfl <| qN <| mwp_cond_f rfl (rfl) <| mwp_seq <| qR rfl <| qC rfl rfl rfl rfl rfl <| qA rfl rfl rfl <| qN <| mwp_cond_f rfl (rfl) <| mwp_seq <| qR rfl <| qC rfl rfl rfl rfl rfl <| qA rfl rfl rfl <| qN <| mwp_cond_f rfl (rfl) <| mwp_seq <| qR rfl ?_
     refine qC rfl rfl rfl rfl rfl <| qA rfl rfl rfl <| qN <| mwp_cond_f rfl (rfl) <| mwp_seq <| qR rfl <| qC rfl rfl rfl rfl rfl <| qA rfl rfl rfl <| qN <| mwp_cond_t rfl (rfl) <| mwp_seq <| qR rfl <| qF rfl rfl rfl fo30_3 <| qL rfl rfl rfl rfl ta27 rfl <| qE rfl rfl Tryz.underlying27 rfl <| qC rfl rfl rfl rfl rfl <| qM rfl rfl rfl ?_
     refine wOps_case (fun h97 => ?_) (fun h97 => ?_)
     ·
      refine qS rfl <| qS rfl <| qS rfl <| qS rfl <| qS rfl <| qS rfl <| qS rfl <| qS rfl <| qS rfl <| qS rfl <| qS rfl <| qS rfl <| qS rfl <| qS rfl <| qS rfl <| qS rfl <| qS rfl <| qS rfl <| qS rfl <| qP rfl rfl rfl rfl <| qA rfl rfl rfl <| qN <| mwp_ret ?_
      exact ret_tmp (.inr rfl) Tryz.results44 rfl (.of_eq (by rw [isVF_mk 7]; rw [show bareF 7 _ = true by simpa using h11, w40t, c40t]; simp only [Bool.true_and, isVL, List.headD_cons, List.tail_cons]; first | (congr 1; symm; rw [if_neg (by decide), if_neg (by decide), if_neg (by decide), if_neg (by decide), if_neg (by decide), if_neg (by decide), if_pos True.intro]; exact hm2) | (congr 1; rw [Bool.eq_iff_iff]; simp_all))) (.bool _) ⟨rfl, rfl⟩
     ·
      have hc0 : ¬ c = [] := by simpa using h97
      refine qF rfl rfl rfl fo30_3 <| qL rfl rfl rfl rfl ta27 rfl <| qE rfl rfl Tryz.underlying27 rfl <| qC rfl rfl rfl rfl rfl <| qM rfl rfl rfl ?_
      refine wOps_case (fun h102 => ?_) (fun h102 => ?_)
      ·
       obtain ⟨c0, rfl⟩ := one_of (by rw [List.length_map] at h102; simp at h102; omega : c.length = 1)
       refine qF rfl rfl rfl fo30_3 <| qL rfl rfl rfl rfl ta27 rfl <| qO rfl <| op_indexAddr rfl Tryz.underlying27 sz55 (by decide) rfl rfl rfl (show _ = some (encC c0) from rfl) ?_
       refine qO rfl <| op_load_sptr rfl rfl ta55 rfl <| qE rfl rfl Tryz.underlying55 rfl <| qC rfl rfl rfl rfl rfl <| qP rfl rfl rfl rfl <| qM rfl rfl rfl ?_
       refine wOps_case (fun h110 => ?_) (fun h110 => ?_)
       ·
        refine qF rfl rfl rfl fo30_3 <| qL rfl rfl rfl rfl ta27 rfl <| qO rfl <| op_indexAddr rfl Tryz.underlying27 sz55 (by decide) rfl rfl rfl (show _ = some (encC c0) from rfl) ?_
        refine qO rfl <| op_load_sptr rfl rfl ta55 rfl ?_
        refine wOps_op rfl (op_call rfl rfl rfl co75 ((clkIs_spec c0 _).mono ?_))
        rintro _ _ ⟨rfl, rfl⟩
        refine qP rfl rfl rfl rfl <| qP rfl rfl rfl rfl <| qA rfl rfl rfl <| qN <| mwp_ret ?_
        exact ret_tmp (.inr rfl) Tryz.results44 rfl (.of_eq (by rw [isVF_mk 7]; rw [show bareF 7 _ = true by simpa using h11, w40t, c40t]; simp only [Bool.true_and, isVL, List.headD_cons, List.tail_cons]; first | (congr 1; symm; rw [if_neg (by decide), if_neg (by decide), if_neg (by decide), if_neg (by decide), if_neg (by decide), if_neg (by decide), if_pos True.intro]; exact hm2) | (congr 1; rw [Bool.eq_iff_iff]; simp_all))) (.bool _) ⟨rfl, rfl⟩
       ·
        refine qS rfl <| qS rfl <| qS rfl <| qS rfl <| qS rfl <| qP rfl rfl rfl rfl <| qP rfl rfl rfl rfl <| qA rfl rfl rfl <| qN <| mwp_ret ?_
        exact ret_tmp (.inr rfl) Tryz.results44 rfl (.of_eq (by rw [isVF_mk 7]; rw [show bareF 7 _ = true by simpa using h11, w40t, c40t]; simp only [Bool.true_and, isVL, List.headD_cons, List.tail_cons]; first | (congr 1; symm; rw [if_neg (by decide), if_neg (by decide), if_neg (by decide), if_neg (by decide), if_neg (by decide), if_neg (by decide), if_pos True.intro]; exact hm2) | (congr 1; rw [Bool.eq_iff_iff]; simp_all))) (.bool _) ⟨rfl, rfl⟩
      ·
       have hm2 := match1_no hc0 (by rw [List.length_map] at h102; simp at h102; omega : c.length ≠ 1)
       refine qS rfl <| qS rfl <| qS rfl <| qS rfl <| qS rfl <| qS rfl <| qP rfl rfl rfl rfl <| qM rfl rfl rfl <| qS rfl <| qS rfl <| qS rfl <| qS rfl <| qS rfl <| qP rfl rfl rfl rfl <| qP rfl rfl rfl rfl <| qA rfl rfl rfl <| qN <| mwp_ret ?_
       exact ret_tmp (.inr rfl) Tryz.results44 rfl (.of_eq (by rw [isVF_mk 7]; rw [show bareF 7 _ = true by simpa using h11, w40t, c40t]; simp only [Bool.true_and, isVL, List.headD_cons, List.tail_cons]; first | (congr 1; symm; rw [if_neg (by decide), if_neg (by decide), if_neg (by decide), if_neg (by decide), if_neg (by decide), if_neg (by decide), if_pos True.intro]; exact hm2) | (congr 1; rw [Bool.eq_iff_iff]; simp_all))) (.bool _) ⟨rfl, rfl⟩
 ·
  obtain ⟨⟨k1, i1⟩, rfl⟩ := one_ins hd.1 (by decide)
  have ih1 := ih (.mk k1 i1) (hd.2 _ (by simp))
  refine mcalls_body Tryz.func44 rfl Tryz.ntmps44 (Nat.le_of_ble_eq_true rfl) ?_
  refine mwp_seq <| qR rfl <| qB rfl rfl rfl rfl rfl <| qB rfl rfl rfl rfl rfl <| qA rfl rfl rfl <| qN <| mwp_seq <| mwp_seq <| qR rfl <| qF rfl rfl rfl fo24_0 <| qL rfl rfl rfl rfl ta3 rfl <| qL rfl rfl rfl rfl ta30 rfl ?_
  refine wOps_op rfl (op_call rfl rfl rfl co69 ((bare_spec 8 (by omega) n m s c w _).mono ?_))
  rintro _ _ ⟨rfl, rfl⟩
  refine qO rfl <| op_not rfl rfl <| qM rfl rfl rfl ?_
  refine wOps_case (fun h11 => ?_) (fun h11 => ?_)
  ·
   refine qS rfl <| qS rfl <| qS rfl <| qS rfl <| qP rfl rfl rfl rfl <| qM rfl rfl rfl <| qS rfl <| qS rfl <| qS rfl <| qS rfl <| qP rfl rfl rfl rfl <| qN <| mwp_cond_t rfl (rfl) <| mwp_seq <| qR rfl <| qA rfl rfl rfl <| qN <| mwp_ret ?_
   exact ret_tmp (.inr rfl) Tryz.results44 rfl (.of_eq (by rw [isVF_mk 8]; congr 1; symm; first | (rw [show bareF 8 _ = false by simpa using h11]; rfl) | (rw [w40f]; simp; done) | (rw [c40f]; simp; done))) (.bool _) ⟨rfl, rfl⟩
  ·
   refine qF rfl rfl rfl fo30_4 <| qL rfl rfl rfl rfl ta28 rfl <| qE rfl rfl Tryz.underlying28 rfl <| qC rfl rfl rfl rfl rfl <| qP rfl rfl rfl rfl <| qM rfl rfl rfl ?_
   refine wOps_case (fun h17 => ?_) (fun h17 => ?_)
   ·
    have w40f := decide_eq_false (by rw [encVs_length] at h17; simp at h17; omega : ¬ w.length ≤ 40)
    refine qS rfl <| qS rfl <| qS rfl <| qS rfl <| qP rfl rfl rfl rfl <| qN <| mwp_cond_t rfl (rfl) <| mwp_seq <| qR rfl <| qA rfl rfl rfl <| qN <| mwp_ret ?_
    exact ret_tmp (.inr rfl) Tryz.results44 rfl (.of_eq (by rw [isVF_mk 8]; congr 1; symm; first | (rw [show bareF 8 _ = false by simpa using h11]; rfl) | (rw [w40f]; simp; done) | (rw [c40f]; simp; done))) (.bool _) ⟨rfl, rfl⟩
   ·
    have w40t := decide_eq_true (by rw [encVs_length] at h17; simp at h17; omega : w.length ≤ 40)
    refine qF rfl rfl rfl fo30_3 <| qL rfl rfl rfl rfl ta27 rfl <| qE rfl rfl Tryz.underlying27 rfl <| qC rfl rfl rfl rfl rfl <| qP rfl rfl rfl rfl <| qN ?_
    refine mwp_cond_split rfl (fun h22 => ?_) (fun h22 => ?_)
    ·
     have c40f := decide_eq_false (by rw [List.length_map] at h22; simp at h22; omega : ¬ c.length ≤ 40)
     refine mwp_seq <| qR rfl <| qA rfl rfl rfl <| qN <| mwp_ret ?_
     exact ret_tmp (.inr rfl) Tryz.results44 rfl (.of_eq (by rw [isVF_mk 8]; congr 1; symm; first | (rw [show bareF 8 _ = false by simpa using h11]; rfl) | (rw [w40f]; simp; done) | (rw [c40f]; simp; done))) (.bool _) ⟨rfl, rfl⟩
    ·
     have c40t := decide_eq_true (by rw [List.length_map] at h22; simp at h22; omega : c.length ≤ 40)
     refine mwp_skip <| mwp_seq <| qR rfl <| qO rfl <| op_makeFunc rfl rfl rfl <| qO rfl <| op_alloc' rfl zm75 rfl rfl <| qO rfl <| op_store' rfl rfl rfl rfl sz75 rfl rfl (Nat.le_of_ble_eq_true rfl) rfl <| qN <| mwp_seq <| mwp_seq <| qR rfl <| qF rfl rfl rfl fo24_0 <| qL rfl rfl rfl rfl ta3 rfl <| qN <| mwp_block <| mwp_seq <| qR rfl <| qC rfl rfl rfl rfl rfl <| qA rfl rfl rfl <| qN <| mwp_cond_f rfl (rfl) <| mwp_seq <| qR rfl <| qC rfl rfl rfl rfl rfl ?_
     refine qA rfl rfl rfl <| qN <| mwp_cond_f rfl (rfl) <| mwp_seq <| qR rfl <| qC rfl rfl rfl rfl rfl <| qA rfl rfl rfl <| qN <| mwp_cond_f rfl (rfl) <| mwp_seq <| qR rfl <| qC rfl rfl rfl rfl rfl <| qA rfl rfl rfl <| qN <| mwp_cond_f rfl (rfl) <| mwp_seq <| qR rfl <| qC rfl rfl rfl rfl rfl <| qA rfl rfl rfl <| qN <| mwp_cond_f rfl (rfl) <| mwp_seq <| qR rfl ?_
     refine qC rfl rfl rfl rfl rfl <| qA rfl rfl rfl <| qN <| mwp_cond_f rfl (rfl) <| mwp_seq <| qR rfl <| qC rfl rfl rfl rfl rfl <| qA rfl rfl rfl <| qN <| mwp_cond_f rfl (rfl) <| mwp_skip <| mwp_seq <| qR rfl <| qF rfl rfl rfl fo30_3 <| qL rfl rfl rfl rfl ta27 rfl <| qE rfl rfl Tryz.underlying27 rfl <| qF rfl rfl rfl fo30_4 <| qL rfl rfl rfl rfl ta28 rfl <| qE rfl rfl Tryz.underlying28 rfl <| qC rfl rfl rfl rfl rfl ?_
     refine qM rfl rfl rfl ?_
     refine wOps_case (fun h125 => ?_) (fun h125 => ?_)
     ·
      have hsl : c.length = w.length := by rw [List.length_map, encVs_length] at h125; simp at h125; omega
      refine qF rfl rfl rfl fo30_3 <| qL rfl rfl rfl rfl ta27 rfl ?_
      refine wOps_op rfl (op_call rfl rfl rfl co76 ((isCause_spec c _).mono ?_))
      rintro _ _ ⟨rfl, rfl⟩
      refine qP rfl rfl rfl rfl <| qM rfl rfl rfl ?_
      refine wOps_case (fun h130 => ?_) (fun h130 => ?_)
      ·
       refine qF rfl rfl rfl fo30_4 <| qL rfl rfl rfl rfl ta28 rfl <| qO rfl <| op_makeFunc rfl rfl rfl ?_
       refine wOps_op rfl (op_call rfl rfl rfl co72 ((vContains_spec _ w (fun x => !isVF (.mk k1 i1) x) _ [] [.ref (S.length + 2) 0] co77 (fun x hx X => is3v_spec 8 k1 i1 [] (isVF (.mk k1 i1)) ih1 x (hvs x hx) _ _ _ (get_mid_ (k := 2) rfl) (get_mid_ (k := 0) rfl))).mono ?_))
       rintro _ _ ⟨rfl, rfl⟩
       refine qO rfl <| op_not rfl rfl <| qP rfl rfl rfl rfl <| qA rfl rfl rfl <| qN <| mwp_ret ?_
       exact ret_tmp (.inr rfl) Tryz.results44 rfl (.of_eq (by rw [isVF_mk 8]; rw [show bareF 8 _ = true by simpa using h11, w40t, c40t]; simp only [Bool.true_and, isVL, List.headD_cons, List.tail_cons]; congr 1; rw [Bool.eq_iff_iff]; simp_all [encVs_length, any_all'])) (.bool _) ⟨rfl, rfl⟩
      ·
       refine qS rfl <| qS rfl <| qS rfl <| qS rfl <| qS rfl <| qP rfl rfl rfl rfl <| qA rfl rfl rfl <| qN <| mwp_ret ?_
       exact ret_tmp (.inr rfl) Tryz.results44 rfl (.of_eq (by rw [isVF_mk 8]; rw [show bareF 8 _ = true by simpa using h11, w40t, c40t]; simp only [Bool.true_and, isVL, List.headD_cons, List.tail_cons]; congr 1; rw [Bool.eq_iff_iff]; simp_all [encVs_length, any_all'])) (.bool _) ⟨rfl, rfl⟩
     ·
      have hsl : ¬ c.length = w.length := by rw [List.length_map, encVs_length] at h125; simp at h125; omega
      refine qS rfl <| qS rfl <| qS rfl <| qP rfl rfl rfl rfl <| qM rfl rfl rfl <| qS rfl <| qS rfl <| qS rfl <| qS rfl <| qS rfl <| qP rfl rfl rfl rfl <| qA rfl rfl rfl <| qN <| mwp_ret ?_
      exact ret_tmp (.inr rfl) Tryz.results44 rfl (.of_eq (by rw [isVF_mk 8]; rw [show bareF 8 _ = true by simpa using h11, w40t, c40t]; simp only [Bool.true_and, isVL, List.headD_cons, List.tail_cons]; congr 1; rw [Bool.eq_iff_iff]; simp_all [encVs_length, any_all'])) (.bool _) ⟨rfl, rfl⟩
end Go.Proofs.YtnfcnpdpfgcchaaGreat
end
section
set_option linter.unusedVariables false
set_option linter.unusedSimpArgs false
namespace Go.MV
open Go Go.RowKit
def IterOk2 (P : Program) (k : FuncId) (first caps : List MV) (ys : List (List MV)) (okT : MS → Prop) (okU : Nat → MS → MS → Prop) : Prop :=
  ∀ (id : Nat) (T U : Nat → MS) (m : Nat), (∀ j, okT (T j)) → (∀ j, j ≤ m → okU j (T j) (U j)) → (∀ j y, j < m → ys[j]? = some y → YStep P id y (U j) true (T (j + 1))) →
    (m = ys.length → MCalls P k (first ++ [.yld id] ++ caps) (T 0) fun _ σ' => σ' = T m) ∧
    (∀ y, ys[m]? = some y → YStep P id y (U m) false (T (m + 1)) → MCalls P k (first ++ [.yld id] ++ caps) (T 0) fun _ σ' => σ' = T (m + 1))
theorem iterOk2_of {P : Program} {k : FuncId} {first caps : List MV} {ys : List (List MV)} {okT : MS → Prop} {okU : Nat → MS → MS → Prop} (h : ∀ (id : Nat) (T U : Nat → MS) (m : Nat), (∀ j, okT (T j)) → (∀ j, j ≤ m → okU j (T j) (U j)) → m ≤ ys.length → (∀ j y, j < m → ys[j]? = some y → YStep P id y (U j) true (T (j + 1))) → (∀ j y, j = m → ys[j]? = some y → YStep P id y (U j) false (T (j + 1))) →
    MCalls P k (first ++ [.yld id] ++ caps) (T 0) fun v σ' => v = .tup [] ∧ σ' = T (if m < ys.length then m + 1 else m)) : IterOk2 P k first caps ys okT okU := by
  intro id T U m hok hoku hyt
  refine ⟨fun hm => ?_, fun y hy hyf => ?_⟩
  · refine (h id T U m hok hoku (by omega) hyt (fun j y hj hy => ?_)).mono ?_
    · have := (List.getElem?_eq_some_iff.1 hy).1; omega
    · rintro v σ' ⟨_, h⟩
      rw [h, if_neg (by omega)]
  · have hm := (List.getElem?_eq_some_iff.1 hy).1
    refine (h id T U m hok hoku (by omega) hyt (fun j z hj hz => ?_)).mono ?_
    · subst hj
      rw [hy] at hz
      injection hz with hz
      subst hz
      exact hyf
    · rintro v σ' ⟨_, h⟩
      rw [h, if_pos hm]
section
variable {P : Program} {rd : Option Nat} {N n : Nat} {Q : Exit → Env → MS → Prop} {env : Env} {S : MS}
theorem mwp_rangeC {f : Operand} {ps : Array Tmp} {assign body : Code} {k : FuncId} {first caps : List MV} {ys : List (List MV)} {okT : MS → Prop} {okU : Nat → MS → MS → Prop} {L0 : MS} (ex : Exit) (hex : ex = .ret ∨ ∃ x, ex = .exit x) (p : Nat → Bool) (L LU Ls : Nat → MS) (hlen : ∀ j, (L j).length = (L 0).length) (hlenu : ∀ j, (LU j).length = (L 0).length) (hlens : ∀ j, (Ls j).length = (L 0).length) (hL0 : L0 = L 0)
    (hcl : ∀ j o, o ∈ L j → ∀ n, (S ++ L 0).length ≤ n → o.cl n) (hclu : ∀ j o, o ∈ LU j → ∀ n, (S ++ L 0).length ≤ n → o.cl n) (hcls : ∀ j o, o ∈ Ls j → ∀ n, (S ++ L 0).length ≤ n → o.cl n)
    (hf : evo env f = some (.fn (.func k) first caps)) (hb : CallOk P k) (hrd : rd = none) (hN : N ≤ (S ++ L 0).length)
    (hit : IterOk2 P k first caps ys (fun σ => okT σ ∧ ClS σ) okU) (hok : ∀ j, okT ((S ++ L j) ++ [.loop .ready none ⟨ps, assign, body, env, n⟩])) (hoku : ∀ j, j ≤ ys.length → okU j ((S ++ L j) ++ [.loop .ready none ⟨ps, assign, body, env, n⟩]) ((S ++ LU j) ++ [.loop .ready none ⟨ps, assign, body, env, n⟩])) (hoks : ∀ j s q, okT ((S ++ Ls j) ++ [.loop s q ⟨ps, assign, body, env, n⟩])) (hpb : ps.toList.all (fun t => Nat.blt t n) = true) (hps : ∀ y ∈ ys, ps.size = y.length)
    (hround : ∀ j y, ys[j]? = some y → (∀ i, i < j → p i = true) → ∀ L' : MS, mwp P (some (S ++ L 0).length) ((S ++ LU j).length + 1 + L'.length) n assign (fun e env1 σ1 => e = .normal ∧ ∃ J, σ1 = ((S ++ LU j) ++ .loop .ready none ⟨ps, assign, body, env, n⟩ :: L') ++ J ∧
      mwp P (some (S ++ L 0).length) ((S ++ LU j).length + 1 + L'.length) n body (fun e2 env2 σ2 =>
        (p j = true ∧ e2 = .normal ∧ ∃ junk, σ2 = ((S ++ L (j + 1)) ++ .loop .busy none ⟨ps, assign, body, env, n⟩ :: L') ++ junk) ∨
        (p j = false ∧ e2 = ex ∧ ∃ junk, σ2 = ((S ++ Ls j) ++ .loop .busy none ⟨ps, assign, body, env, n⟩ :: L') ++ junk)) env1 (((S ++ LU j) ++ .loop .busy none ⟨ps, assign, body, env, n⟩ :: L') ++ J)) (bindPs ps.toList y env) ((S ++ LU j) ++ .loop .ready none ⟨ps, assign, body, env, n⟩ :: L'))
    (hend : (∀ j, j < ys.length → p j = true) → Q .normal env ((S ++ L ys.length) ++ [.gone]))
    (hstop : ∀ j y, ys[j]? = some y → p j = false → Q ex env ((S ++ Ls j) ++ [.gone])) : mwp P rd N n (.rangeFunc f ps assign body) Q env (S ++ L0) := by
  subst hL0 hrd
  have hid : ∀ j, (S ++ L j).length = (S ++ L 0).length := fun j => by simp [hlen j]
  have hidu : ∀ j, (S ++ LU j).length = (S ++ L 0).length := fun j => by simp [hlenu j]
  have hids : ∀ j, (S ++ Ls j).length = (S ++ L 0).length := fun j => by simp [hlens j]
  refine mwp_facts fun hce hcs => ?_
  have hc0 : ∀ s q, ClS ((S ++ L 0) ++ [.loop s q ⟨ps, assign, body, env, n⟩]) := fun s q => cls_loop hcs hce
  refine mwp_range hf hb (fun id h => by cases h) hN ?_
  have hstep : ∀ j y, ys[j]? = some y → (∀ i, i < j → p i = true) → ∀ (K : MV → MS → Prop) (L' : MS) (rd' : Option Nat) (o : Oper) (env' : Env) (f' : Operand) (args : Array Operand) (ts : Array TypeId), o.op = .call { callee := .value f', args := args, argTypes := ts } → evo env' f' = some (.yld (S ++ L 0).length) → evos env' args.toList = some y →
      (p j = true → K (.bool true) ((S ++ L (j + 1)) ++ .loop .ready none ⟨ps, assign, body, env, n⟩ :: L')) →
      (p j = false → K (.bool false) ((S ++ Ls j) ++ .loop .done (some (exCode ex)) ⟨ps, assign, body, env, n⟩ :: L')) →
      OpWp P rd' o env' ((S ++ LU j) ++ .loop .ready none ⟨ps, assign, body, env, n⟩ :: L') K := by
    intro j y hy hbef K L' rd' o env' f' args ts ho hf' hargs hk1 hk2
    have hsz : args.size = y.length := by
      have := evos_len _ _ hargs
      simpa using this
    have hget : ((S ++ LU j) ++ MObj.loop .ready none ⟨ps, assign, body, env, n⟩ :: L')[(S ++ L 0).length]? = some (.loop .ready none ⟨ps, assign, body, env, n⟩) := by
      rw [← hidu j]; exact get_mid
    have hN' : ((S ++ LU j) ++ MObj.loop .ready none ⟨ps, assign, body, env, n⟩ :: L').length = (S ++ LU j).length + 1 + L'.length := by
      rw [List.length_append, List.length_cons]; omega
    refine op_yield ho hf' hargs hget (by rw [hsz]; exact hps y (List.mem_of_getElem? hy)) hpb ?_
    rw [hN']
    refine mwp_facts fun _ hcl0 => ?_
    refine mwp_mono (hround j y hy hbef L') ?_
    rintro e env1 σ1 ⟨rfl, J, rfl, h⟩
    refine ⟨rfl, none, get_app hget, ?_⟩
    have hset : (((S ++ LU j) ++ MObj.loop .ready none ⟨ps, assign, body, env, n⟩ :: L') ++ J).set (S ++ L 0).length (.loop .busy none ⟨ps, assign, body, env, n⟩) = ((S ++ LU j) ++ .loop .busy none ⟨ps, assign, body, env, n⟩ :: L') ++ J := by
      rw [set_app hget, ← hidu j]; exact congrArg (· ++ J) set_mid
    rw [hset]
    refine mwp_mono h ?_
    rintro e2 env2 σ2 (⟨hp, rfl, junk, rfl⟩ | ⟨hp, rfl, junk, rfl⟩)
    · refine ⟨_, junk, none, ⟨ps, assign, body, env, n⟩, rfl, ?_, .inr (cls_swap (hlenu j) (hlen (j + 1)) (hcl (j + 1)) (by simp) hcl0), ?_, ?_⟩
      · have h1 := hid (j + 1)
        have h2 := hidu j
        simp only [List.length_append, List.length_cons] at *
        omega
      · rw [← hid (j + 1)]; exact get_mid
      · show K (.bool true) _
        rw [← hid (j + 1), set_mid]
        exact hk1 hp
    · refine ⟨_, junk, none, ⟨ps, assign, body, env, n⟩, rfl, ?_, .inr (cls_swap (hlenu j) (hlens j) (hcls j) (by simp) hcl0), ?_, ?_⟩
      · have h1 := hids j
        have h2 := hidu j
        simp only [List.length_append, List.length_cons] at *
        omega
      · rw [← hids j]; exact get_mid
      · rcases hex with rfl | ⟨x, rfl⟩
        · show K (.bool false) _
          rw [← hids j, set_mid]
          exact hk2 hp
        · show K (.bool false) _
          rw [← hids j, set_mid]
          exact hk2 hp
  have hgo : ∀ m, (∀ j, j < m → p j = true) → ∀ (T : Nat → MS), (∀ j, j ≤ m → T j = (S ++ L j) ++ [.loop .ready none ⟨ps, assign, body, env, n⟩]) → ∀ j y, j < m → ys[j]? = some y → YStep P (S ++ L 0).length y ((S ++ LU j) ++ [.loop .ready none ⟨ps, assign, body, env, n⟩]) true (T (j + 1)) := by
    intro m hm T hT j y hj hy L' rd' o env' f' args ts ho hf' hargs
    have e1 : ∀ (A : MS) (X : MObj), ((S ++ A) ++ [X]) ++ L' = (S ++ A) ++ X :: L' := fun i X => by simp
    rw [hT (j + 1) (by omega), e1, e1]
    exact hstep j y hy (fun i hi => hm i (by omega)) _ L' rd' o env' f' args ts ho hf' hargs (fun _ => ⟨rfl, rfl⟩) (fun h => by rw [hm j hj] at h; cases h)
  rcases first_bad p ys.length with hall | ⟨m, hm, hp, hbef⟩
  · refine ((hit (S ++ L 0).length (fun j => (S ++ L j) ++ [.loop .ready none ⟨ps, assign, body, env, n⟩]) (fun j => (S ++ LU j) ++ [.loop .ready none ⟨ps, assign, body, env, n⟩]) ys.length (fun j => ⟨hok j, cls_swap (hlen 0) (hlen j) (hcl j) rfl (hc0 .ready none)⟩) (fun j hj => hoku j hj) (hgo ys.length hall _ (fun j _ => rfl))).1 rfl).mono ?_
    rintro v σ' rfl
    refine ⟨.ready, none, by rw [← hid ys.length]; exact get_mid, by simp, ?_⟩
    show Q .normal env _
    rw [← hid ys.length, set_mid]
    exact hend hall
  · obtain ⟨y, hy⟩ : ∃ y, ys[m]? = some y := ⟨_, List.getElem?_eq_getElem hm⟩
    let q : Code := exCode ex
    let T : Nat → MS := fun j => if j ≤ m then (S ++ L j) ++ [.loop .ready none ⟨ps, assign, body, env, n⟩] else (S ++ Ls m) ++ [.loop .done (some q) ⟨ps, assign, body, env, n⟩]
    have hT : ∀ j, j ≤ m → T j = (S ++ L j) ++ [.loop .ready none ⟨ps, assign, body, env, n⟩] := fun j hj => by simp [T, hj]
    have hT1 : T (m + 1) = (S ++ Ls m) ++ [.loop .done (some q) ⟨ps, assign, body, env, n⟩] := by simp [T]
    have h0 : T 0 = (S ++ L 0) ++ [.loop .ready none ⟨ps, assign, body, env, n⟩] := hT 0 (by omega)
    have hokT : ∀ j, okT (T j) ∧ ClS (T j) := fun j => by
      by_cases hj : j ≤ m
      · rw [hT j hj]; exact ⟨hok j, cls_swap (hlen 0) (hlen j) (hcl j) rfl (hc0 .ready none)⟩
      · simp only [T, if_neg hj]; exact ⟨hoks m _ _, cls_swap (hlen 0) (hlens m) (hcls m) rfl (hc0 .ready none)⟩
    have := (hit (S ++ L 0).length T (fun j => (S ++ LU j) ++ [.loop .ready none ⟨ps, assign, body, env, n⟩]) m hokT (fun j hj => by rw [hT j hj]; exact hoku j (by omega)) (hgo m hbef T hT)).2 y hy (by
      intro L' rd' o env' f' args ts ho hf' hargs
      have e1 : ∀ (A : MS) (X : MObj), ((S ++ A) ++ [X]) ++ L' = (S ++ A) ++ X :: L' := fun i X => by simp
      rw [hT1, e1, e1]
      exact hstep m y hy hbef _ L' rd' o env' f' args ts ho hf' hargs (fun h => by rw [hp] at h; cases h) (fun _ => ⟨rfl, rfl⟩))
    rw [h0] at this
    refine this.mono ?_
    rintro v σ' rfl
    rw [hT1]
    refine ⟨.done, some q, by rw [← hids m]; exact get_mid, by simp, ?_⟩
    rw [← hids m, set_mid]
    rcases hex with rfl | ⟨x, rfl⟩
    · exact hstop m y hy hp
    · exact hstop m y hy hp
end
end Go.MV
end
section
set_option linter.unusedVariables false
set_option linter.unusedSimpArgs false
set_option maxRecDepth 20000
set_option maxHeartbeats 400000
namespace Go.Proofs.YtnfcnpdpfgcchaaGreat
open Go Go.MV
def bothX : List Bs → List Bs → List Bs
 | [], [] => []
 | x :: a, [] => x :: bothX a []
 | [], y :: b => y :: bothX [] b
 | x :: a, y :: b => if Op.bytesLess x y then x :: bothX a (y :: b) else if Op.bytesLess y x then y :: bothX (x :: a) b else x :: bothX a b
 termination_by a b => a.length + b.length
theorem len_snoc {α : Type} {l : List α} {x : α} : (l ++ [x]).length = l.length + 1 := by simp
theorem getDJ_of {α : Type} {l : List α} {i : Nat} {a d : α} (h : l[i]? = some a) : l.getD i d = a := by simp [h]
theorem drop_getD {l : List Bs} {i : Nat} (h : i < l.length) : l.drop i = l.getD i [] :: l.drop (i + 1) := by
 rw [List.drop_eq_getElem_cons h]; simp [h]
theorem both_end : bothX [] [] = [] := by rw [bothX]
theorem both_A {a b : List Bs} {i k : Nat} (hi : i < a.length) (hk : k ≤ b.length) (h : k = b.length ∨ Op.bytesLess (a.getD i []) (b.getD k []) = true) : bothX (a.drop i) (b.drop k) = a.getD i [] :: bothX (a.drop (i + 1)) (b.drop k) := by
 rw [drop_getD hi]
 by_cases e : k = b.length
 ·rw [e, List.drop_length, bothX]
 ·have hkb : k < b.length := by omega
  rw [drop_getD hkb, bothX, if_pos (h.resolve_left e)]
theorem both_B {a b : List Bs} {i k : Nat} (hk : k < b.length) (hi : i ≤ a.length) (h : i = a.length ∨ (Op.bytesLess (a.getD i []) (b.getD k []) = false ∧ Op.bytesLess (b.getD k []) (a.getD i []) = true)) : bothX (a.drop i) (b.drop k) = b.getD k [] :: bothX (a.drop i) (b.drop (k + 1)) := by
 rw [drop_getD hk]
 by_cases e : i = a.length
 ·rw [e, List.drop_length, bothX]
 ·have hia : i < a.length := by omega
  obtain ⟨h1, h2⟩ := h.resolve_left e
  rw [drop_getD hia, bothX, if_neg (fun hh => by rw [h1] at hh; cases hh), if_pos h2]
theorem both_C {a b : List Bs} {i k : Nat} (hi : i < a.length) (hk : k < b.length) (h1 : Op.bytesLess (a.getD i []) (b.getD k []) = false) (h2 : Op.bytesLess (b.getD k []) (a.getD i []) = false) : bothX (a.drop i) (b.drop k) = a.getD i [] :: bothX (a.drop (i + 1)) (b.drop (k + 1)) := by
 rw [drop_getD hi, drop_getD hk, bothX, if_neg (fun hh => by rw [h1] at hh; cases hh), if_neg (fun hh => by rw [h2] at hh; cases hh)]
theorem both_len : ∀ a b : List Bs, (bothX a b).length ≤ a.length + b.length := by
 intro a b
 induction a, b using bothX.induct with
 | case1 => simp [bothX]
 | case2 x a ih => rw [bothX]; simp at ih ⊢; omega
 | case3 y b ih => rw [bothX]; simp at ih ⊢; omega
 | case4 x a y b h ih => rw [bothX, if_pos h]; simp at ih ⊢; omega
 | case5 x a y b h h2 ih => rw [bothX, if_neg h, if_pos h2]; simp at ih ⊢; omega
 | case6 x a y b h h2 ih => rw [bothX, if_neg h, if_neg h2]; simp at ih ⊢; omega
theorem with_iter (a b : List Bs) (hab : a.length + b.length ≤ 1000000) (ida idb l0 : Nat) : IterOk Tryz.prog 139 [] [.ref ida 0, .ref idb 0] ((bothX a b).map fun x => [encX x]) (fun σ => σ.length = l0 ∧ σ[ida]? = some (.cells [.lst none 1 (a.map encX)]) ∧ σ[idb]? = some (.cells [.lst none 1 (b.map encX)])) := by
 refine iterOk_of fun id T m hok hm hyt hyf => ?_
 have hml : ((bothX a b).map fun x => [encX x]).length = (bothX a b).length := List.length_map ..
 refine mcalls_body Tryz.func139 rfl Tryz.ntmps139 (Nat.le_of_ble_eq_true rfl) ?_
 rw [List.append_nil]
 show mwp _ _ _ _ _ _ _ (([] : MS) ++ T 0)
 refine mwp_seq <| qR rfl <| qA rfl rfl rfl <| qA rfl rfl rfl <| qN <| mwp_block ?_
 refine mwp_loopK (α := Nat × Nat × Nat) [(0, _), (1, _), (2, _)] (fun x => [(4, .int .i64 (x.2.1 : Int)), (5, .int .i64 (x.2.2 : Int))]) (fun x => T x.1) (fun x => x.1 ≤ m ∧ x.2.1 ≤ a.length ∧ x.2.2 ≤ b.length ∧ bothX (a.drop x.2.1) (b.drop x.2.2) = (bothX a b).drop x.1) (fun x => a.length - x.2.1 + (b.length - x.2.2)) (⟨0, 0, 0⟩) (.keep rfl (.keep rfl (.keep rfl (.nil)))) (.keep rfl (.keep rfl (.nil))) (⟨by simp, by simp, by simp, rfl⟩) (rfl) ?_
 rintro ⟨j, i, k⟩ ⟨hj, hi, hk, he⟩
 dsimp only at hj hi hk he ⊢
 refine mwp_seq <| mwp_seq <| qR rfl <| qM rfl rfl rfl <| qO rfl <| op_load_ref rfl rfl ((hok _).2.1) ta125 rfl <| qE rfl rfl Tryz.underlying125 rfl <| qC rfl rfl rfl rfl rfl <| qM rfl rfl rfl ?_
 refine wOps_case (fun h11 => ?_) (fun h11 => ?_)
 ·
  have hia : i < a.length := by rw [List.length_map] at h11; simpa using h11
  refine qS rfl <| qS rfl <| qS rfl <| qS rfl <| qP rfl rfl rfl rfl <| qN <| mwp_cond_t rfl (rfl) <| mwp_skip <| mwp_block <| mwp_seq <| qR rfl <| qA rfl rfl rfl <| qN <| mwp_seq <| mwp_block <| mwp_seq ?_
  refine mwp_draw [] [_] mo (by decide) rfl rfl rfl rfl ?_
  refine dO rfl rfl rfl (op_move rfl rfl ⟨rfl, rfl⟩) <| dO rfl rfl rfl (op_load_ref rfl rfl ((hok _).2.2) ta125 rfl ⟨rfl, rfl⟩) <| dO rfl rfl rfl (op_len_lst rfl Tryz.underlying125 rfl ⟨rfl, rfl⟩) <| dO rfl rfl rfl (op_cmp rfl rfl rfl rfl ⟨rfl, rfl⟩) <| dO rfl rfl rfl (op_move rfl rfl ⟨rfl, rfl⟩) ?_
  refine dOps_case (fun h30 => ?_) (fun h30 => ?_)
  ·
   have hk2 : k = b.length := by rw [List.length_map] at h30; simp at h30; omega
   refine dS rfl rfl <| dS rfl rfl <| dS rfl rfl <| dS rfl rfl <| dS rfl rfl <| dS rfl rfl <| dS rfl rfl <| dS rfl rfl <| dS rfl rfl <| dS rfl rfl <| dS rfl rfl <| dS rfl rfl <| dS rfl rfl <| dS rfl rfl <| dS rfl rfl <| dO rfl rfl rfl (op_pick rfl rfl rfl ⟨rfl, rfl⟩) <| dO rfl rfl rfl (op_assign rfl rfl ⟨rfl, rfl⟩) <| dOps_nil <| mwp_cond_t rfl (rfl) <| mwp_seq ?_
   obtain ⟨x, hs⟩ : ∃ q, a[i]? = some q := ⟨_, List.getElem?_eq_getElem (by omega)⟩
   have hgx := getDJ_of (d := []) hs
   refine qR rfl <| qO rfl <| op_load_ref rfl rfl ((hok _).2.1) ta125 rfl <| qM rfl rfl rfl <| qO rfl <| op_indexAddr rfl Tryz.underlying125 sz9 (by decide) rfl rfl rfl (get_map hs) ?_
   refine qO rfl <| op_load_sptr rfl rfl ta9 rfl <| qA rfl rfl rfl <| qN <| qR rfl <| qM rfl rfl rfl <| qO rfl <| op_arith rfl rfl rfl (wadd (a := i) (b := 1) rfl (by omega)) ?_
   refine qA rfl rfl rfl ?_
   have hnx := he
   rw [both_A (by omega) (by omega) (by first | exact .inl hk2 | exact .inr hlt), hgx] at hnx
   obtain ⟨hy, hnx⟩ := drop_cons_get hnx
   replace hy : ((bothX a b).map fun x => [encX x])[j]? = some [encX x] := by rw [List.getElem?_map, hy]; rfl
   have hjl := (List.getElem?_eq_some_iff.1 hy).1
   refine qN <| mwp_seq ?_
   rcases Nat.lt_or_eq_of_le hj with hjm | hjm
   ·
    refine qR rfl <| qM rfl rfl rfl <| qM rfl rfl rfl <| qO rfl <| ((hyt j _ hjm hy).at0 rfl rfl rfl).mono ?_
    rintro _ _ ⟨rfl, rfl⟩
    refine qO rfl <| op_not rfl rfl <| qN <| mwp_cond_f rfl (rfl) <| mwp_skip ?_
    refine ⟨⟨j + 1, _, _⟩, by dsimp only; omega, ⟨by dsimp only; omega, by dsimp only; omega, by dsimp only; omega, hnx⟩, rfl, (.keep rfl (.keep rfl (.keep rfl (.nil)))), (.eq rfl (rfl) (.eq rfl (rfl) (.nil)))⟩
   ·
    refine qR rfl <| qM rfl rfl rfl <| qM rfl rfl rfl <| qO rfl <| ((hyf j _ hjm hy).at0 rfl rfl rfl).mono ?_
    rintro _ _ ⟨rfl, rfl⟩
    refine qO rfl <| op_not rfl rfl <| qN <| mwp_cond_t rfl (rfl) ?_
    refine mwp_facts fun hcv hcl => ?_
    refine mwp_ret ?_
    exact ret_noneT (S' := T (j + 1)) (by simp) Tryz.results139 (by rw [(hok _).1, (hok _).1]; exact Nat.le_refl _) hcl ⟨rfl, by rw [hjm, if_pos (by omega)]⟩
  ·
   have hk2 : ¬ k = b.length := by rw [List.length_map] at h30; simp at h30; omega
   refine dO rfl rfl rfl (op_move rfl rfl ⟨rfl, rfl⟩) <| dO rfl rfl rfl (op_load_ref rfl rfl ((hok _).2.1) ta125 rfl ⟨rfl, rfl⟩) <| dO rfl rfl rfl (op_len_lst rfl Tryz.underlying125 rfl ⟨rfl, rfl⟩) <| dO rfl rfl rfl (op_cmp rfl rfl rfl rfl ⟨rfl, rfl⟩) <| dO rfl rfl rfl (op_move rfl rfl ⟨rfl, rfl⟩) ?_
   refine dOps_case (fun h35 => ?_) (fun h35 => ?_)
   ·
    have hia2 : i < a.length := by rw [List.length_map] at h35; simpa using h35
    obtain ⟨x, hs⟩ : ∃ q, a[i]? = some q := ⟨_, List.getElem?_eq_getElem (by omega)⟩
    have hgx := getDJ_of (d := []) hs
    obtain ⟨y, hs2⟩ : ∃ q, b[k]? = some q := ⟨_, List.getElem?_eq_getElem (by omega)⟩
    have hgy := getDJ_of (d := []) hs2
    refine dO rfl rfl rfl (op_load_ref rfl rfl ((hok _).2.1) ta125 rfl ⟨rfl, rfl⟩) <| dO rfl rfl rfl (op_move rfl rfl ⟨rfl, rfl⟩) <| dO rfl rfl rfl (op_indexAddr rfl Tryz.underlying125 sz9 (by decide) rfl rfl rfl (get_map hs) ⟨rfl, rfl⟩) ?_
    refine dO rfl rfl rfl (op_load_sptr rfl rfl ta9 rfl ⟨rfl, rfl⟩) <| dO rfl rfl rfl (op_load_ref rfl rfl ((hok _).2.2) ta125 rfl ⟨rfl, rfl⟩) <| dO rfl rfl rfl (op_move rfl rfl ⟨rfl, rfl⟩) <| dO rfl rfl rfl (op_indexAddr rfl Tryz.underlying125 sz9 (by decide) rfl rfl rfl (get_map hs2) ⟨rfl, rfl⟩) ?_
    refine dO rfl rfl rfl (op_load_sptr rfl rfl ta9 rfl ⟨rfl, rfl⟩) <| dO rfl rfl rfl (op_strcmp rfl rfl rfl rfl ⟨rfl, rfl⟩) <| dO rfl rfl rfl (op_pick rfl rfl rfl ⟨rfl, rfl⟩) <| dO rfl rfl rfl (op_pick rfl rfl rfl ⟨rfl, rfl⟩) <| dO rfl rfl rfl (op_assign rfl rfl ⟨rfl, rfl⟩) <| dOps_nil ?_
    refine mwp_cond_split rfl (fun h25 => ?_) (fun h25 => ?_)
    ·
     have hlt : Op.bytesLess (a.getD i []) (b.getD k []) = true := by rw [hgx, hgy]; simpa using h25
     refine mwp_seq ?_
     obtain ⟨x, hs⟩ : ∃ q, a[i]? = some q := ⟨_, List.getElem?_eq_getElem (by omega)⟩
     have hgx := getDJ_of (d := []) hs
     refine qR rfl <| qO rfl <| op_load_ref rfl rfl ((hok _).2.1) ta125 rfl <| qM rfl rfl rfl <| qO rfl <| op_indexAddr rfl Tryz.underlying125 sz9 (by decide) rfl rfl rfl (get_map hs) ?_
     refine qO rfl <| op_load_sptr rfl rfl ta9 rfl <| qA rfl rfl rfl <| qN <| qR rfl <| qM rfl rfl rfl <| qO rfl <| op_arith rfl rfl rfl (wadd (a := i) (b := 1) rfl (by omega)) ?_
     refine qA rfl rfl rfl ?_
     have hnx := he
     rw [both_A (by omega) (by omega) (by first | exact .inl hk2 | exact .inr hlt), hgx] at hnx
     obtain ⟨hy, hnx⟩ := drop_cons_get hnx
     replace hy : ((bothX a b).map fun x => [encX x])[j]? = some [encX x] := by rw [List.getElem?_map, hy]; rfl
     have hjl := (List.getElem?_eq_some_iff.1 hy).1
     refine qN <| mwp_seq ?_
     rcases Nat.lt_or_eq_of_le hj with hjm | hjm
     ·
      refine qR rfl <| qM rfl rfl rfl <| qM rfl rfl rfl <| qO rfl <| ((hyt j _ hjm hy).at0 rfl rfl rfl).mono ?_
      rintro _ _ ⟨rfl, rfl⟩
      refine qO rfl <| op_not rfl rfl <| qN <| mwp_cond_f rfl (rfl) <| mwp_skip ?_
      refine ⟨⟨j + 1, _, _⟩, by dsimp only; omega, ⟨by dsimp only; omega, by dsimp only; omega, by dsimp only; omega, hnx⟩, rfl, (.keep rfl (.keep rfl (.keep rfl (.nil)))), (.eq rfl (rfl) (.eq rfl (rfl) (.nil)))⟩
     ·
      refine qR rfl <| qM rfl rfl rfl <| qM rfl rfl rfl <| qO rfl <| ((hyf j _ hjm hy).at0 rfl rfl rfl).mono ?_
      rintro _ _ ⟨rfl, rfl⟩
      refine qO rfl <| op_not rfl rfl <| qN <| mwp_cond_t rfl (rfl) ?_
      refine mwp_facts fun hcv hcl => ?_
      refine mwp_ret ?_
      exact ret_noneT (S' := T (j + 1)) (by simp) Tryz.results139 (by rw [(hok _).1, (hok _).1]; exact Nat.le_refl _) hcl ⟨rfl, by rw [hjm, if_pos (by omega)]⟩
    ·
     have hlt : Op.bytesLess (a.getD i []) (b.getD k []) = false := by rw [hgx, hgy]; simpa using h25
     refine mwp_seq ?_
     refine mwp_draw [] [_] mo (by decide) rfl rfl rfl rfl ?_
     refine dO rfl rfl rfl (op_move rfl rfl ⟨rfl, rfl⟩) <| dO rfl rfl rfl (op_load_ref rfl rfl ((hok _).2.1) ta125 rfl ⟨rfl, rfl⟩) <| dO rfl rfl rfl (op_len_lst rfl Tryz.underlying125 rfl ⟨rfl, rfl⟩) <| dO rfl rfl rfl (op_cmp rfl rfl rfl rfl ⟨rfl, rfl⟩) <| dO rfl rfl rfl (op_move rfl rfl ⟨rfl, rfl⟩) ?_
     refine dOps_case (fun h58 => ?_) (fun h58 => ?_)
     ·
      have hia3 : i = a.length := by rw [List.length_map] at h58; simp at h58; omega
      refine dS rfl rfl <| dS rfl rfl <| dS rfl rfl <| dS rfl rfl <| dS rfl rfl <| dS rfl rfl <| dS rfl rfl <| dS rfl rfl <| dS rfl rfl <| dO rfl rfl rfl (op_pick rfl rfl rfl ⟨rfl, rfl⟩) <| dO rfl rfl rfl (op_assign rfl rfl ⟨rfl, rfl⟩) <| dOps_nil <| mwp_cond_t rfl (rfl) <| mwp_seq ?_
      obtain ⟨y, hs2⟩ : ∃ q, b[k]? = some q := ⟨_, List.getElem?_eq_getElem (by omega)⟩
      have hgy := getDJ_of (d := []) hs2
      refine qR rfl <| qO rfl <| op_load_ref rfl rfl ((hok _).2.2) ta125 rfl <| qM rfl rfl rfl <| qO rfl <| op_indexAddr rfl Tryz.underlying125 sz9 (by decide) rfl rfl rfl (get_map hs2) ?_
      refine qO rfl <| op_load_sptr rfl rfl ta9 rfl <| qA rfl rfl rfl <| qN <| qR rfl <| qM rfl rfl rfl <| qO rfl <| op_arith rfl rfl rfl (wadd (a := k) (b := 1) rfl (by omega)) ?_
      refine qA rfl rfl rfl ?_
      have hnx := he
      rw [both_B (by omega) (by omega) (by first | exact .inl hia3 | exact .inr ⟨hlt, hgt⟩ | exact .inl (by omega)), hgy] at hnx
      obtain ⟨hy, hnx⟩ := drop_cons_get hnx
      replace hy : ((bothX a b).map fun x => [encX x])[j]? = some [encX y] := by rw [List.getElem?_map, hy]; rfl
      have hjl := (List.getElem?_eq_some_iff.1 hy).1
      refine qN <| mwp_seq ?_
      rcases Nat.lt_or_eq_of_le hj with hjm | hjm
      ·
       refine qR rfl <| qM rfl rfl rfl <| qM rfl rfl rfl <| qO rfl <| ((hyt j _ hjm hy).at0 rfl rfl rfl).mono ?_
       rintro _ _ ⟨rfl, rfl⟩
       refine qO rfl <| op_not rfl rfl <| qN <| mwp_cond_f rfl (rfl) <| mwp_skip ?_
       refine ⟨⟨j + 1, _, _⟩, by dsimp only; omega, ⟨by dsimp only; omega, by dsimp only; omega, by dsimp only; omega, hnx⟩, rfl, (.keep rfl (.keep rfl (.keep rfl (.nil)))), (.eq rfl (rfl) (.eq rfl (rfl) (.nil)))⟩
      ·
       refine qR rfl <| qM rfl rfl rfl <| qM rfl rfl rfl <| qO rfl <| ((hyf j _ hjm hy).at0 rfl rfl rfl).mono ?_
       rintro _ _ ⟨rfl, rfl⟩
       refine qO rfl <| op_not rfl rfl <| qN <| mwp_cond_t rfl (rfl) ?_
       refine mwp_facts fun hcv hcl => ?_
       refine mwp_ret ?_
       exact ret_noneT (S' := T (j + 1)) (by simp) Tryz.results139 (by rw [(hok _).1, (hok _).1]; exact Nat.le_refl _) hcl ⟨rfl, by rw [hjm, if_pos (by omega)]⟩
     ·
      have hia3 : ¬ i = a.length := by rw [List.length_map] at h58; simp at h58; omega
      obtain ⟨x, hs⟩ : ∃ q, a[i]? = some q := ⟨_, List.getElem?_eq_getElem (by omega)⟩
      have hgx := getDJ_of (d := []) hs
      obtain ⟨y, hs2⟩ : ∃ q, b[k]? = some q := ⟨_, List.getElem?_eq_getElem (by omega)⟩
      have hgy := getDJ_of (d := []) hs2
      refine dO rfl rfl rfl (op_load_ref rfl rfl ((hok _).2.2) ta125 rfl ⟨rfl, rfl⟩) <| dO rfl rfl rfl (op_move rfl rfl ⟨rfl, rfl⟩) <| dO rfl rfl rfl (op_indexAddr rfl Tryz.underlying125 sz9 (by decide) rfl rfl rfl (get_map hs2) ⟨rfl, rfl⟩) ?_
      refine dO rfl rfl rfl (op_load_sptr rfl rfl ta9 rfl ⟨rfl, rfl⟩) <| dO rfl rfl rfl (op_load_ref rfl rfl ((hok _).2.1) ta125 rfl ⟨rfl, rfl⟩) <| dO rfl rfl rfl (op_move rfl rfl ⟨rfl, rfl⟩) <| dO rfl rfl rfl (op_indexAddr rfl Tryz.underlying125 sz9 (by decide) rfl rfl rfl (get_map hs) ⟨rfl, rfl⟩) ?_
      refine dO rfl rfl rfl (op_load_sptr rfl rfl ta9 rfl ⟨rfl, rfl⟩) <| dO rfl rfl rfl (op_strcmp rfl rfl rfl rfl ⟨rfl, rfl⟩) <| dO rfl rfl rfl (op_pick rfl rfl rfl ⟨rfl, rfl⟩) <| dO rfl rfl rfl (op_assign rfl rfl ⟨rfl, rfl⟩) <| dOps_nil ?_
      refine mwp_cond_split rfl (fun h53 => ?_) (fun h53 => ?_)
      ·
       have hgt : Op.bytesLess (b.getD k []) (a.getD i []) = true := by rw [hgx, hgy]; simpa using h53
       refine mwp_seq ?_
       obtain ⟨y, hs2⟩ : ∃ q, b[k]? = some q := ⟨_, List.getElem?_eq_getElem (by omega)⟩
       have hgy := getDJ_of (d := []) hs2
       refine qR rfl <| qO rfl <| op_load_ref rfl rfl ((hok _).2.2) ta125 rfl <| qM rfl rfl rfl <| qO rfl <| op_indexAddr rfl Tryz.underlying125 sz9 (by decide) rfl rfl rfl (get_map hs2) ?_
       refine qO rfl <| op_load_sptr rfl rfl ta9 rfl <| qA rfl rfl rfl <| qN <| qR rfl <| qM rfl rfl rfl <| qO rfl <| op_arith rfl rfl rfl (wadd (a := k) (b := 1) rfl (by omega)) ?_
       refine qA rfl rfl rfl ?_
       have hnx := he
       rw [both_B (by omega) (by omega) (by first | exact .inl hia3 | exact .inr ⟨hlt, hgt⟩ | exact .inl (by omega)), hgy] at hnx
       obtain ⟨hy, hnx⟩ := drop_cons_get hnx
       replace hy : ((bothX a b).map fun x => [encX x])[j]? = some [encX y] := by rw [List.getElem?_map, hy]; rfl
       have hjl := (List.getElem?_eq_some_iff.1 hy).1
       refine qN <| mwp_seq ?_
       rcases Nat.lt_or_eq_of_le hj with hjm | hjm
       ·
        refine qR rfl <| qM rfl rfl rfl <| qM rfl rfl rfl <| qO rfl <| ((hyt j _ hjm hy).at0 rfl rfl rfl).mono ?_
        rintro _ _ ⟨rfl, rfl⟩
        refine qO rfl <| op_not rfl rfl <| qN <| mwp_cond_f rfl (rfl) <| mwp_skip ?_
        refine ⟨⟨j + 1, _, _⟩, by dsimp only; omega, ⟨by dsimp only; omega, by dsimp only; omega, by dsimp only; omega, hnx⟩, rfl, (.keep rfl (.keep rfl (.keep rfl (.nil)))), (.eq rfl (rfl) (.eq rfl (rfl) (.nil)))⟩
       ·
        refine qR rfl <| qM rfl rfl rfl <| qM rfl rfl rfl <| qO rfl <| ((hyf j _ hjm hy).at0 rfl rfl rfl).mono ?_
        rintro _ _ ⟨rfl, rfl⟩
        refine qO rfl <| op_not rfl rfl <| qN <| mwp_cond_t rfl (rfl) ?_
        refine mwp_facts fun hcv hcl => ?_
        refine mwp_ret ?_
        exact ret_noneT (S' := T (j + 1)) (by simp) Tryz.results139 (by rw [(hok _).1, (hok _).1]; exact Nat.le_refl _) hcl ⟨rfl, by rw [hjm, if_pos (by omega)]⟩
      ·
       have hgt : Op.bytesLess (b.getD k []) (a.getD i []) = false := by rw [hgx, hgy]; simpa using h53
       refine mwp_seq ?_
       obtain ⟨x, hs⟩ : ∃ q, a[i]? = some q := ⟨_, List.getElem?_eq_getElem (by omega)⟩
       have hgx := getDJ_of (d := []) hs
       refine qR rfl <| qO rfl <| op_load_ref rfl rfl ((hok _).2.1) ta125 rfl <| qM rfl rfl rfl <| qO rfl <| op_indexAddr rfl Tryz.underlying125 sz9 (by decide) rfl rfl rfl (get_map hs) ?_
       refine qO rfl <| op_load_sptr rfl rfl ta9 rfl <| qA rfl rfl rfl <| qN <| qR rfl <| qM rfl rfl rfl <| qO rfl <| op_arith rfl rfl rfl (wadd (a := i) (b := 1) rfl (by omega)) ?_
       refine qM rfl rfl rfl <| qO rfl <| op_arith rfl rfl rfl (wadd (a := k) (b := 1) rfl (by omega)) ?_
       refine qA rfl rfl rfl <| qA rfl rfl rfl ?_
       have hnx := he
       rw [both_C (by omega) (by omega) (by first | exact hlt | (exfalso; omega)) hgt, hgx] at hnx
       obtain ⟨hy, hnx⟩ := drop_cons_get hnx
       replace hy : ((bothX a b).map fun x => [encX x])[j]? = some [encX x] := by rw [List.getElem?_map, hy]; rfl
       have hjl := (List.getElem?_eq_some_iff.1 hy).1
       refine qN <| mwp_seq ?_
       rcases Nat.lt_or_eq_of_le hj with hjm | hjm
       ·
        refine qR rfl <| qM rfl rfl rfl <| qM rfl rfl rfl <| qO rfl <| ((hyt j _ hjm hy).at0 rfl rfl rfl).mono ?_
        rintro _ _ ⟨rfl, rfl⟩
        refine qO rfl <| op_not rfl rfl <| qN <| mwp_cond_f rfl (rfl) <| mwp_skip ?_
        refine ⟨⟨j + 1, _, _⟩, by dsimp only; omega, ⟨by dsimp only; omega, by dsimp only; omega, by dsimp only; omega, hnx⟩, rfl, (.keep rfl (.keep rfl (.keep rfl (.nil)))), (.eq rfl (rfl) (.eq rfl (rfl) (.nil)))⟩
       ·
        refine qR rfl <| qM rfl rfl rfl <| qM rfl rfl rfl <| qO rfl <| ((hyf j _ hjm hy).at0 rfl rfl rfl).mono ?_
        rintro _ _ ⟨rfl, rfl⟩
        refine qO rfl <| op_not rfl rfl <| qN <| mwp_cond_t rfl (rfl) ?_
        refine mwp_facts fun hcv hcl => ?_
        refine mwp_ret ?_
        exact ret_noneT (S' := T (j + 1)) (by simp) Tryz.results139 (by rw [(hok _).1, (hok _).1]; exact Nat.le_refl _) hcl ⟨rfl, by rw [hjm, if_pos (by omega)]⟩
   ·
    have hia2 : ¬ i < a.length := by rw [List.length_map] at h35; simp at h35; omega
    refine dS rfl rfl <| dS rfl rfl <| dS rfl rfl <| dS rfl rfl <| dS rfl rfl <| dS rfl rfl <| dS rfl rfl <| dS rfl rfl <| dS rfl rfl <| dO rfl rfl rfl (op_pick rfl rfl rfl ⟨rfl, rfl⟩) <| dO rfl rfl rfl (op_pick rfl rfl rfl ⟨rfl, rfl⟩) <| dO rfl rfl rfl (op_assign rfl rfl ⟨rfl, rfl⟩) <| dOps_nil <| mwp_cond_f rfl (rfl) <| mwp_seq ?_
    refine mwp_draw [] [_] mo (by decide) rfl rfl rfl rfl ?_
    refine dO rfl rfl rfl (op_move rfl rfl ⟨rfl, rfl⟩) <| dO rfl rfl rfl (op_load_ref rfl rfl ((hok _).2.1) ta125 rfl ⟨rfl, rfl⟩) <| dO rfl rfl rfl (op_len_lst rfl Tryz.underlying125 rfl ⟨rfl, rfl⟩) <| dO rfl rfl rfl (op_cmp rfl rfl rfl rfl ⟨rfl, rfl⟩) <| dO rfl rfl rfl (op_move rfl rfl ⟨rfl, rfl⟩) ?_
    refine dOps_case (fun h58 => ?_) (fun h58 => ?_)
    ·
     have hia3 : i = a.length := by rw [List.length_map] at h58; simp at h58; omega
     refine dS rfl rfl <| dS rfl rfl <| dS rfl rfl <| dS rfl rfl <| dS rfl rfl <| dS rfl rfl <| dS rfl rfl <| dS rfl rfl <| dS rfl rfl <| dO rfl rfl rfl (op_pick rfl rfl rfl ⟨rfl, rfl⟩) <| dO rfl rfl rfl (op_assign rfl rfl ⟨rfl, rfl⟩) <| dOps_nil <| mwp_cond_t rfl (rfl) <| mwp_seq ?_
     obtain ⟨y, hs2⟩ : ∃ q, b[k]? = some q := ⟨_, List.getElem?_eq_getElem (by omega)⟩
     have hgy := getDJ_of (d := []) hs2
     refine qR rfl <| qO rfl <| op_load_ref rfl rfl ((hok _).2.2) ta125 rfl <| qM rfl rfl rfl <| qO rfl <| op_indexAddr rfl Tryz.underlying125 sz9 (by decide) rfl rfl rfl (get_map hs2) ?_
     refine qO rfl <| op_load_sptr rfl rfl ta9 rfl <| qA rfl rfl rfl <| qN <| qR rfl <| qM rfl rfl rfl <| qO rfl <| op_arith rfl rfl rfl (wadd (a := k) (b := 1) rfl (by omega)) ?_
     refine qA rfl rfl rfl ?_
     have hnx := he
     rw [both_B (by omega) (by omega) (by first | exact .inl hia3 | exact .inr ⟨hlt, hgt⟩ | exact .inl (by omega)), hgy] at hnx
     obtain ⟨hy, hnx⟩ := drop_cons_get hnx
     replace hy : ((bothX a b).map fun x => [encX x])[j]? = some [encX y] := by rw [List.getElem?_map, hy]; rfl
     have hjl := (List.getElem?_eq_some_iff.1 hy).1
     refine qN <| mwp_seq ?_
     rcases Nat.lt_or_eq_of_le hj with hjm | hjm
     ·
      refine qR rfl <| qM rfl rfl rfl <| qM rfl rfl rfl <| qO rfl <| ((hyt j _ hjm hy).at0 rfl rfl rfl).mono ?_
      rintro _ _ ⟨rfl, rfl⟩
      refine qO rfl <| op_not rfl rfl <| qN <| mwp_cond_f rfl (rfl) <| mwp_skip ?_
      refine ⟨⟨j + 1, _, _⟩, by dsimp only; omega, ⟨by dsimp only; omega, by dsimp only; omega, by dsimp only; omega, hnx⟩, rfl, (.keep rfl (.keep rfl (.keep rfl (.nil)))), (.eq rfl (rfl) (.eq rfl (rfl) (.nil)))⟩
     ·
      refine qR rfl <| qM rfl rfl rfl <| qM rfl rfl rfl <| qO rfl <| ((hyf j _ hjm hy).at0 rfl rfl rfl).mono ?_
      rintro _ _ ⟨rfl, rfl⟩
      refine qO rfl <| op_not rfl rfl <| qN <| mwp_cond_t rfl (rfl) ?_
      refine mwp_facts fun hcv hcl => ?_
      refine mwp_ret ?_
      exact ret_noneT (S' := T (j + 1)) (by simp) Tryz.results139 (by rw [(hok _).1, (hok _).1]; exact Nat.le_refl _) hcl ⟨rfl, by rw [hjm, if_pos (by omega)]⟩
    ·
     have hia3 : ¬ i = a.length := by rw [List.length_map] at h58; simp at h58; omega
     obtain ⟨x, hs⟩ : ∃ q, a[i]? = some q := ⟨_, List.getElem?_eq_getElem (by omega)⟩
     have hgx := getDJ_of (d := []) hs
     obtain ⟨y, hs2⟩ : ∃ q, b[k]? = some q := ⟨_, List.getElem?_eq_getElem (by omega)⟩
     have hgy := getDJ_of (d := []) hs2
     refine dO rfl rfl rfl (op_load_ref rfl rfl ((hok _).2.2) ta125 rfl ⟨rfl, rfl⟩) <| dO rfl rfl rfl (op_move rfl rfl ⟨rfl, rfl⟩) <| dO rfl rfl rfl (op_indexAddr rfl Tryz.underlying125 sz9 (by decide) rfl rfl rfl (get_map hs2) ⟨rfl, rfl⟩) ?_
     refine dO rfl rfl rfl (op_load_sptr rfl rfl ta9 rfl ⟨rfl, rfl⟩) <| dO rfl rfl rfl (op_load_ref rfl rfl ((hok _).2.1) ta125 rfl ⟨rfl, rfl⟩) <| dO rfl rfl rfl (op_move rfl rfl ⟨rfl, rfl⟩) <| dO rfl rfl rfl (op_indexAddr rfl Tryz.underlying125 sz9 (by decide) rfl rfl rfl (get_map hs) ⟨rfl, rfl⟩) ?_
     refine dO rfl rfl rfl (op_load_sptr rfl rfl ta9 rfl ⟨rfl, rfl⟩) <| dO rfl rfl rfl (op_strcmp rfl rfl rfl rfl ⟨rfl, rfl⟩) <| dO rfl rfl rfl (op_pick rfl rfl rfl ⟨rfl, rfl⟩) <| dO rfl rfl rfl (op_assign rfl rfl ⟨rfl, rfl⟩) <| dOps_nil ?_
     refine mwp_cond_split rfl (fun h53 => ?_) (fun h53 => ?_)
     ·
      have hgt : Op.bytesLess (b.getD k []) (a.getD i []) = true := by rw [hgx, hgy]; simpa using h53
      refine mwp_seq ?_
      obtain ⟨y, hs2⟩ : ∃ q, b[k]? = some q := ⟨_, List.getElem?_eq_getElem (by omega)⟩
      have hgy := getDJ_of (d := []) hs2
      refine qR rfl <| qO rfl <| op_load_ref rfl rfl ((hok _).2.2) ta125 rfl <| qM rfl rfl rfl <| qO rfl <| op_indexAddr rfl Tryz.underlying125 sz9 (by decide) rfl rfl rfl (get_map hs2) ?_
      refine qO rfl <| op_load_sptr rfl rfl ta9 rfl <| qA rfl rfl rfl <| qN <| qR rfl <| qM rfl rfl rfl <| qO rfl <| op_arith rfl rfl rfl (wadd (a := k) (b := 1) rfl (by omega)) ?_
      refine qA rfl rfl rfl ?_
      have hnx := he
      rw [both_B (by omega) (by omega) (by first | exact .inl hia3 | exact .inr ⟨hlt, hgt⟩ | exact .inl (by omega)), hgy] at hnx
      obtain ⟨hy, hnx⟩ := drop_cons_get hnx
      replace hy : ((bothX a b).map fun x => [encX x])[j]? = some [encX y] := by rw [List.getElem?_map, hy]; rfl
      have hjl := (List.getElem?_eq_some_iff.1 hy).1
      refine qN <| mwp_seq ?_
      rcases Nat.lt_or_eq_of_le hj with hjm | hjm
      ·
       refine qR rfl <| qM rfl rfl rfl <| qM rfl rfl rfl <| qO rfl <| ((hyt j _ hjm hy).at0 rfl rfl rfl).mono ?_
       rintro _ _ ⟨rfl, rfl⟩
       refine qO rfl <| op_not rfl rfl <| qN <| mwp_cond_f rfl (rfl) <| mwp_skip ?_
       refine ⟨⟨j + 1, _, _⟩, by dsimp only; omega, ⟨by dsimp only; omega, by dsimp only; omega, by dsimp only; omega, hnx⟩, rfl, (.keep rfl (.keep rfl (.keep rfl (.nil)))), (.eq rfl (rfl) (.eq rfl (rfl) (.nil)))⟩
      ·
       refine qR rfl <| qM rfl rfl rfl <| qM rfl rfl rfl <| qO rfl <| ((hyf j _ hjm hy).at0 rfl rfl rfl).mono ?_
       rintro _ _ ⟨rfl, rfl⟩
       refine qO rfl <| op_not rfl rfl <| qN <| mwp_cond_t rfl (rfl) ?_
       refine mwp_facts fun hcv hcl => ?_
       refine mwp_ret ?_
       exact ret_noneT (S' := T (j + 1)) (by simp) Tryz.results139 (by rw [(hok _).1, (hok _).1]; exact Nat.le_refl _) hcl ⟨rfl, by rw [hjm, if_pos (by omega)]⟩
     ·
      have hgt : Op.bytesLess (b.getD k []) (a.getD i []) = false := by rw [hgx, hgy]; simpa using h53
      refine mwp_seq ?_
      obtain ⟨x, hs⟩ : ∃ q, a[i]? = some q := ⟨_, List.getElem?_eq_getElem (by omega)⟩
      have hgx := getDJ_of (d := []) hs
      refine qR rfl <| qO rfl <| op_load_ref rfl rfl ((hok _).2.1) ta125 rfl <| qM rfl rfl rfl <| qO rfl <| op_indexAddr rfl Tryz.underlying125 sz9 (by decide) rfl rfl rfl (get_map hs) ?_
      refine qO rfl <| op_load_sptr rfl rfl ta9 rfl <| qA rfl rfl rfl <| qN <| qR rfl <| qM rfl rfl rfl <| qO rfl <| op_arith rfl rfl rfl (wadd (a := i) (b := 1) rfl (by omega)) ?_
      refine qM rfl rfl rfl <| qO rfl <| op_arith rfl rfl rfl (wadd (a := k) (b := 1) rfl (by omega)) ?_
      refine qA rfl rfl rfl <| qA rfl rfl rfl ?_
      have hnx := he
      rw [both_C (by omega) (by omega) (by first | exact hlt | (exfalso; omega)) hgt, hgx] at hnx
      obtain ⟨hy, hnx⟩ := drop_cons_get hnx
      replace hy : ((bothX a b).map fun x => [encX x])[j]? = some [encX x] := by rw [List.getElem?_map, hy]; rfl
      have hjl := (List.getElem?_eq_some_iff.1 hy).1
      refine qN <| mwp_seq ?_
      rcases Nat.lt_or_eq_of_le hj with hjm | hjm
      ·
       refine qR rfl <| qM rfl rfl rfl <| qM rfl rfl rfl <| qO rfl <| ((hyt j _ hjm hy).at0 rfl rfl rfl).mono ?_
       rintro _ _ ⟨rfl, rfl⟩
       refine qO rfl <| op_not rfl rfl <| qN <| mwp_cond_f rfl (rfl) <| mwp_skip ?_
       refine ⟨⟨j + 1, _, _⟩, by dsimp only; omega, ⟨by dsimp only; omega, by dsimp only; omega, by dsimp only; omega, hnx⟩, rfl, (.keep rfl (.keep rfl (.keep rfl (.nil)))), (.eq rfl (rfl) (.eq rfl (rfl) (.nil)))⟩
      ·
       refine qR rfl <| qM rfl rfl rfl <| qM rfl rfl rfl <| qO rfl <| ((hyf j _ hjm hy).at0 rfl rfl rfl).mono ?_
       rintro _ _ ⟨rfl, rfl⟩
       refine qO rfl <| op_not rfl rfl <| qN <| mwp_cond_t rfl (rfl) ?_
       refine mwp_facts fun hcv hcl => ?_
       refine mwp_ret ?_
       exact ret_noneT (S' := T (j + 1)) (by simp) Tryz.results139 (by rw [(hok _).1, (hok _).1]; exact Nat.le_refl _) hcl ⟨rfl, by rw [hjm, if_pos (by omega)]⟩
 ·
  have hia : ¬ i < a.length := by rw [List.length_map] at h11; simp at h11; omega
  refine qM rfl rfl rfl <| qO rfl <| op_load_ref rfl rfl ((hok _).2.2) ta125 rfl <| qE rfl rfl Tryz.underlying125 rfl <| qC rfl rfl rfl rfl rfl <| qP rfl rfl rfl rfl <| qN ?_
  refine mwp_cond_split rfl (fun h16 => ?_) (fun h16 => ?_)
  ·
   have hkb : k < b.length := by rw [List.length_map] at h16; simpa using h16
   refine mwp_skip <| mwp_block <| mwp_seq <| qR rfl <| qA rfl rfl rfl <| qN <| mwp_seq <| mwp_block <| mwp_seq ?_
   refine mwp_draw [] [_] mo (by decide) rfl rfl rfl rfl ?_
   refine dO rfl rfl rfl (op_move rfl rfl ⟨rfl, rfl⟩) <| dO rfl rfl rfl (op_load_ref rfl rfl ((hok _).2.2) ta125 rfl ⟨rfl, rfl⟩) <| dO rfl rfl rfl (op_len_lst rfl Tryz.underlying125 rfl ⟨rfl, rfl⟩) <| dO rfl rfl rfl (op_cmp rfl rfl rfl rfl ⟨rfl, rfl⟩) <| dO rfl rfl rfl (op_move rfl rfl ⟨rfl, rfl⟩) ?_
   refine dOps_case (fun h30 => ?_) (fun h30 => ?_)
   ·
    have hk2 : k = b.length := by rw [List.length_map] at h30; simp at h30; omega
    refine dS rfl rfl <| dS rfl rfl <| dS rfl rfl <| dS rfl rfl <| dS rfl rfl <| dS rfl rfl <| dS rfl rfl <| dS rfl rfl <| dS rfl rfl <| dS rfl rfl <| dS rfl rfl <| dS rfl rfl <| dS rfl rfl <| dS rfl rfl <| dS rfl rfl <| dO rfl rfl rfl (op_pick rfl rfl rfl ⟨rfl, rfl⟩) <| dO rfl rfl rfl (op_assign rfl rfl ⟨rfl, rfl⟩) <| dOps_nil <| mwp_cond_t rfl (rfl) <| mwp_seq ?_
    obtain ⟨x, hs⟩ : ∃ q, a[i]? = some q := ⟨_, List.getElem?_eq_getElem (by omega)⟩
    have hgx := getDJ_of (d := []) hs
    refine qR rfl <| qO rfl <| op_load_ref rfl rfl ((hok _).2.1) ta125 rfl <| qM rfl rfl rfl <| qO rfl <| op_indexAddr rfl Tryz.underlying125 sz9 (by decide) rfl rfl rfl (get_map hs) ?_
    refine qO rfl <| op_load_sptr rfl rfl ta9 rfl <| qA rfl rfl rfl <| qN <| qR rfl <| qM rfl rfl rfl <| qO rfl <| op_arith rfl rfl rfl (wadd (a := i) (b := 1) rfl (by omega)) ?_
    refine qA rfl rfl rfl ?_
    have hnx := he
    rw [both_A (by omega) (by omega) (by first | exact .inl hk2 | exact .inr hlt), hgx] at hnx
    obtain ⟨hy, hnx⟩ := drop_cons_get hnx
    replace hy : ((bothX a b).map fun x => [encX x])[j]? = some [encX x] := by rw [List.getElem?_map, hy]; rfl
    have hjl := (List.getElem?_eq_some_iff.1 hy).1
    refine qN <| mwp_seq ?_
    rcases Nat.lt_or_eq_of_le hj with hjm | hjm
    ·
     refine qR rfl <| qM rfl rfl rfl <| qM rfl rfl rfl <| qO rfl <| ((hyt j _ hjm hy).at0 rfl rfl rfl).mono ?_
     rintro _ _ ⟨rfl, rfl⟩
     refine qO rfl <| op_not rfl rfl <| qN <| mwp_cond_f rfl (rfl) <| mwp_skip ?_
     refine ⟨⟨j + 1, _, _⟩, by dsimp only; omega, ⟨by dsimp only; omega, by dsimp only; omega, by dsimp only; omega, hnx⟩, rfl, (.keep rfl (.keep rfl (.keep rfl (.nil)))), (.eq rfl (rfl) (.eq rfl (rfl) (.nil)))⟩
    ·
     refine qR rfl <| qM rfl rfl rfl <| qM rfl rfl rfl <| qO rfl <| ((hyf j _ hjm hy).at0 rfl rfl rfl).mono ?_
     rintro _ _ ⟨rfl, rfl⟩
     refine qO rfl <| op_not rfl rfl <| qN <| mwp_cond_t rfl (rfl) ?_
     refine mwp_facts fun hcv hcl => ?_
     refine mwp_ret ?_
     exact ret_noneT (S' := T (j + 1)) (by simp) Tryz.results139 (by rw [(hok _).1, (hok _).1]; exact Nat.le_refl _) hcl ⟨rfl, by rw [hjm, if_pos (by omega)]⟩
   ·
    have hk2 : ¬ k = b.length := by rw [List.length_map] at h30; simp at h30; omega
    refine dO rfl rfl rfl (op_move rfl rfl ⟨rfl, rfl⟩) <| dO rfl rfl rfl (op_load_ref rfl rfl ((hok _).2.1) ta125 rfl ⟨rfl, rfl⟩) <| dO rfl rfl rfl (op_len_lst rfl Tryz.underlying125 rfl ⟨rfl, rfl⟩) <| dO rfl rfl rfl (op_cmp rfl rfl rfl rfl ⟨rfl, rfl⟩) <| dO rfl rfl rfl (op_move rfl rfl ⟨rfl, rfl⟩) ?_
    refine dOps_case (fun h35 => ?_) (fun h35 => ?_)
    ·
     have hia2 : i < a.length := by rw [List.length_map] at h35; simpa using h35
     obtain ⟨x, hs⟩ : ∃ q, a[i]? = some q := ⟨_, List.getElem?_eq_getElem (by omega)⟩
     have hgx := getDJ_of (d := []) hs
     obtain ⟨y, hs2⟩ : ∃ q, b[k]? = some q := ⟨_, List.getElem?_eq_getElem (by omega)⟩
     have hgy := getDJ_of (d := []) hs2
     refine dO rfl rfl rfl (op_load_ref rfl rfl ((hok _).2.1) ta125 rfl ⟨rfl, rfl⟩) <| dO rfl rfl rfl (op_move rfl rfl ⟨rfl, rfl⟩) <| dO rfl rfl rfl (op_indexAddr rfl Tryz.underlying125 sz9 (by decide) rfl rfl rfl (get_map hs) ⟨rfl, rfl⟩) ?_
     refine dO rfl rfl rfl (op_load_sptr rfl rfl ta9 rfl ⟨rfl, rfl⟩) <| dO rfl rfl rfl (op_load_ref rfl rfl ((hok _).2.2) ta125 rfl ⟨rfl, rfl⟩) <| dO rfl rfl rfl (op_move rfl rfl ⟨rfl, rfl⟩) <| dO rfl rfl rfl (op_indexAddr rfl Tryz.underlying125 sz9 (by decide) rfl rfl rfl (get_map hs2) ⟨rfl, rfl⟩) ?_
     refine dO rfl rfl rfl (op_load_sptr rfl rfl ta9 rfl ⟨rfl, rfl⟩) <| dO rfl rfl rfl (op_strcmp rfl rfl rfl rfl ⟨rfl, rfl⟩) <| dO rfl rfl rfl (op_pick rfl rfl rfl ⟨rfl, rfl⟩) <| dO rfl rfl rfl (op_pick rfl rfl rfl ⟨rfl, rfl⟩) <| dO rfl rfl rfl (op_assign rfl rfl ⟨rfl, rfl⟩) <| dOps_nil ?_
     refine mwp_cond_split rfl (fun h25 => ?_) (fun h25 => ?_)
     ·
      have hlt : Op.bytesLess (a.getD i []) (b.getD k []) = true := by rw [hgx, hgy]; simpa using h25
      refine mwp_seq ?_
      obtain ⟨x, hs⟩ : ∃ q, a[i]? = some q := ⟨_, List.getElem?_eq_getElem (by omega)⟩
      have hgx := getDJ_of (d := []) hs
      refine qR rfl <| qO rfl <| op_load_ref rfl rfl ((hok _).2.1) ta125 rfl <| qM rfl rfl rfl <| qO rfl <| op_indexAddr rfl Tryz.underlying125 sz9 (by decide) rfl rfl rfl (get_map hs) ?_
      refine qO rfl <| op_load_sptr rfl rfl ta9 rfl <| qA rfl rfl rfl <| qN <| qR rfl <| qM rfl rfl rfl <| qO rfl <| op_arith rfl rfl rfl (wadd (a := i) (b := 1) rfl (by omega)) ?_
      refine qA rfl rfl rfl ?_
      have hnx := he
      rw [both_A (by omega) (by omega) (by first | exact .inl hk2 | exact .inr hlt), hgx] at hnx
      obtain ⟨hy, hnx⟩ := drop_cons_get hnx
      replace hy : ((bothX a b).map fun x => [encX x])[j]? = some [encX x] := by rw [List.getElem?_map, hy]; rfl
      have hjl := (List.getElem?_eq_some_iff.1 hy).1
      refine qN <| mwp_seq ?_
      rcases Nat.lt_or_eq_of_le hj with hjm | hjm
      ·
       refine qR rfl <| qM rfl rfl rfl <| qM rfl rfl rfl <| qO rfl <| ((hyt j _ hjm hy).at0 rfl rfl rfl).mono ?_
       rintro _ _ ⟨rfl, rfl⟩
       refine qO rfl <| op_not rfl rfl <| qN <| mwp_cond_f rfl (rfl) <| mwp_skip ?_
       refine ⟨⟨j + 1, _, _⟩, by dsimp only; omega, ⟨by dsimp only; omega, by dsimp only; omega, by dsimp only; omega, hnx⟩, rfl, (.keep rfl (.keep rfl (.keep rfl (.nil)))), (.eq rfl (rfl) (.eq rfl (rfl) (.nil)))⟩
      ·
       refine qR rfl <| qM rfl rfl rfl <| qM rfl rfl rfl <| qO rfl <| ((hyf j _ hjm hy).at0 rfl rfl rfl).mono ?_
       rintro _ _ ⟨rfl, rfl⟩
       refine qO rfl <| op_not rfl rfl <| qN <| mwp_cond_t rfl (rfl) ?_
       refine mwp_facts fun hcv hcl => ?_
       refine mwp_ret ?_
       exact ret_noneT (S' := T (j + 1)) (by simp) Tryz.results139 (by rw [(hok _).1, (hok _).1]; exact Nat.le_refl _) hcl ⟨rfl, by rw [hjm, if_pos (by omega)]⟩
     ·
      have hlt : Op.bytesLess (a.getD i []) (b.getD k []) = false := by rw [hgx, hgy]; simpa using h25
      refine mwp_seq ?_
      refine mwp_draw [] [_] mo (by decide) rfl rfl rfl rfl ?_
      refine dO rfl rfl rfl (op_move rfl rfl ⟨rfl, rfl⟩) <| dO rfl rfl rfl (op_load_ref rfl rfl ((hok _).2.1) ta125 rfl ⟨rfl, rfl⟩) <| dO rfl rfl rfl (op_len_lst rfl Tryz.underlying125 rfl ⟨rfl, rfl⟩) <| dO rfl rfl rfl (op_cmp rfl rfl rfl rfl ⟨rfl, rfl⟩) <| dO rfl rfl rfl (op_move rfl rfl ⟨rfl, rfl⟩) ?_
      refine dOps_case (fun h58 => ?_) (fun h58 => ?_)
      ·
       have hia3 : i = a.length := by rw [List.length_map] at h58; simp at h58; omega
       refine dS rfl rfl <| dS rfl rfl <| dS rfl rfl <| dS rfl rfl <| dS rfl rfl <| dS rfl rfl <| dS rfl rfl <| dS rfl rfl <| dS rfl rfl <| dO rfl rfl rfl (op_pick rfl rfl rfl ⟨rfl, rfl⟩) <| dO rfl rfl rfl (op_assign rfl rfl ⟨rfl, rfl⟩) <| dOps_nil <| mwp_cond_t rfl (rfl) <| mwp_seq ?_
       obtain ⟨y, hs2⟩ : ∃ q, b[k]? = some q := ⟨_, List.getElem?_eq_getElem (by omega)⟩
       have hgy := getDJ_of (d := []) hs2
       refine qR rfl <| qO rfl <| op_load_ref rfl rfl ((hok _).2.2) ta125 rfl <| qM rfl rfl rfl <| qO rfl <| op_indexAddr rfl Tryz.underlying125 sz9 (by decide) rfl rfl rfl (get_map hs2) ?_
       refine qO rfl <| op_load_sptr rfl rfl ta9 rfl <| qA rfl rfl rfl <| qN <| qR rfl <| qM rfl rfl rfl <| qO rfl <| op_arith rfl rfl rfl (wadd (a := k) (b := 1) rfl (by omega)) ?_
       refine qA rfl rfl rfl ?_
       have hnx := he
       rw [both_B (by omega) (by omega) (by first | exact .inl hia3 | exact .inr ⟨hlt, hgt⟩ | exact .inl (by omega)), hgy] at hnx
       obtain ⟨hy, hnx⟩ := drop_cons_get hnx
       replace hy : ((bothX a b).map fun x => [encX x])[j]? = some [encX y] := by rw [List.getElem?_map, hy]; rfl
       have hjl := (List.getElem?_eq_some_iff.1 hy).1
       refine qN <| mwp_seq ?_
       rcases Nat.lt_or_eq_of_le hj with hjm | hjm
       ·
        refine qR rfl <| qM rfl rfl rfl <| qM rfl rfl rfl <| qO rfl <| ((hyt j _ hjm hy).at0 rfl rfl rfl).mono ?_
        rintro _ _ ⟨rfl, rfl⟩
        refine qO rfl <| op_not rfl rfl <| qN <| mwp_cond_f rfl (rfl) <| mwp_skip ?_
        refine ⟨⟨j + 1, _, _⟩, by dsimp only; omega, ⟨by dsimp only; omega, by dsimp only; omega, by dsimp only; omega, hnx⟩, rfl, (.keep rfl (.keep rfl (.keep rfl (.nil)))), (.eq rfl (rfl) (.eq rfl (rfl) (.nil)))⟩
       ·
        refine qR rfl <| qM rfl rfl rfl <| qM rfl rfl rfl <| qO rfl <| ((hyf j _ hjm hy).at0 rfl rfl rfl).mono ?_
        rintro _ _ ⟨rfl, rfl⟩
        refine qO rfl <| op_not rfl rfl <| qN <| mwp_cond_t rfl (rfl) ?_
        refine mwp_facts fun hcv hcl => ?_
        refine mwp_ret ?_
        exact ret_noneT (S' := T (j + 1)) (by simp) Tryz.results139 (by rw [(hok _).1, (hok _).1]; exact Nat.le_refl _) hcl ⟨rfl, by rw [hjm, if_pos (by omega)]⟩
      ·
       have hia3 : ¬ i = a.length := by rw [List.length_map] at h58; simp at h58; omega
       obtain ⟨x, hs⟩ : ∃ q, a[i]? = some q := ⟨_, List.getElem?_eq_getElem (by omega)⟩
       have hgx := getDJ_of (d := []) hs
       obtain ⟨y, hs2⟩ : ∃ q, b[k]? = some q := ⟨_, List.getElem?_eq_getElem (by omega)⟩
       have hgy := getDJ_of (d := []) hs2
       refine dO rfl rfl rfl (op_load_ref rfl rfl ((hok _).2.2) ta125 rfl ⟨rfl, rfl⟩) <| dO rfl rfl rfl (op_move rfl rfl ⟨rfl, rfl⟩) <| dO rfl rfl rfl (op_indexAddr rfl Tryz.underlying125 sz9 (by decide) rfl rfl rfl (get_map hs2) ⟨rfl, rfl⟩) ?_
       refine dO rfl rfl rfl (op_load_sptr rfl rfl ta9 rfl ⟨rfl, rfl⟩) <| dO rfl rfl rfl (op_load_ref rfl rfl ((hok _).2.1) ta125 rfl ⟨rfl, rfl⟩) <| dO rfl rfl rfl (op_move rfl rfl ⟨rfl, rfl⟩) <| dO rfl rfl rfl (op_indexAddr rfl Tryz.underlying125 sz9 (by decide) rfl rfl rfl (get_map hs) ⟨rfl, rfl⟩) ?_
       refine dO rfl rfl rfl (op_load_sptr rfl rfl ta9 rfl ⟨rfl, rfl⟩) <| dO rfl rfl rfl (op_strcmp rfl rfl rfl rfl ⟨rfl, rfl⟩) <| dO rfl rfl rfl (op_pick rfl rfl rfl ⟨rfl, rfl⟩) <| dO rfl rfl rfl (op_assign rfl rfl ⟨rfl, rfl⟩) <| dOps_nil ?_
       refine mwp_cond_split rfl (fun h53 => ?_) (fun h53 => ?_)
       ·
        have hgt : Op.bytesLess (b.getD k []) (a.getD i []) = true := by rw [hgx, hgy]; simpa using h53
        refine mwp_seq ?_
        obtain ⟨y, hs2⟩ : ∃ q, b[k]? = some q := ⟨_, List.getElem?_eq_getElem (by omega)⟩
        have hgy := getDJ_of (d := []) hs2
        refine qR rfl <| qO rfl <| op_load_ref rfl rfl ((hok _).2.2) ta125 rfl <| qM rfl rfl rfl <| qO rfl <| op_indexAddr rfl Tryz.underlying125 sz9 (by decide) rfl rfl rfl (get_map hs2) ?_
        refine qO rfl <| op_load_sptr rfl rfl ta9 rfl <| qA rfl rfl rfl <| qN <| qR rfl <| qM rfl rfl rfl <| qO rfl <| op_arith rfl rfl rfl (wadd (a := k) (b := 1) rfl (by omega)) ?_
        refine qA rfl rfl rfl ?_
        have hnx := he
        rw [both_B (by omega) (by omega) (by first | exact .inl hia3 | exact .inr ⟨hlt, hgt⟩ | exact .inl (by omega)), hgy] at hnx
        obtain ⟨hy, hnx⟩ := drop_cons_get hnx
        replace hy : ((bothX a b).map fun x => [encX x])[j]? = some [encX y] := by rw [List.getElem?_map, hy]; rfl
        have hjl := (List.getElem?_eq_some_iff.1 hy).1
        refine qN <| mwp_seq ?_
        rcases Nat.lt_or_eq_of_le hj with hjm | hjm
        ·
         refine qR rfl <| qM rfl rfl rfl <| qM rfl rfl rfl <| qO rfl <| ((hyt j _ hjm hy).at0 rfl rfl rfl).mono ?_
         rintro _ _ ⟨rfl, rfl⟩
         refine qO rfl <| op_not rfl rfl <| qN <| mwp_cond_f rfl (rfl) <| mwp_skip ?_
         refine ⟨⟨j + 1, _, _⟩, by dsimp only; omega, ⟨by dsimp only; omega, by dsimp only; omega, by dsimp only; omega, hnx⟩, rfl, (.keep rfl (.keep rfl (.keep rfl (.nil)))), (.eq rfl (rfl) (.eq rfl (rfl) (.nil)))⟩
        ·
         refine qR rfl <| qM rfl rfl rfl <| qM rfl rfl rfl <| qO rfl <| ((hyf j _ hjm hy).at0 rfl rfl rfl).mono ?_
         rintro _ _ ⟨rfl, rfl⟩
         refine qO rfl <| op_not rfl rfl <| qN <| mwp_cond_t rfl (rfl) ?_
         refine mwp_facts fun hcv hcl => ?_
         refine mwp_ret ?_
         exact ret_noneT (S' := T (j + 1)) (by simp) Tryz.results139 (by rw [(hok _).1, (hok _).1]; exact Nat.le_refl _) hcl ⟨rfl, by rw [hjm, if_pos (by omega)]⟩
       ·
        have hgt : Op.bytesLess (b.getD k []) (a.getD i []) = false := by rw [hgx, hgy]; simpa using h53
        refine mwp_seq ?_
        obtain ⟨x, hs⟩ : ∃ q, a[i]? = some q := ⟨_, List.getElem?_eq_getElem (by omega)⟩
        have hgx := getDJ_of (d := []) hs
        refine qR rfl <| qO rfl <| op_load_ref rfl rfl ((hok _).2.1) ta125 rfl <| qM rfl rfl rfl <| qO rfl <| op_indexAddr rfl Tryz.underlying125 sz9 (by decide) rfl rfl rfl (get_map hs) ?_
        refine qO rfl <| op_load_sptr rfl rfl ta9 rfl <| qA rfl rfl rfl <| qN <| qR rfl <| qM rfl rfl rfl <| qO rfl <| op_arith rfl rfl rfl (wadd (a := i) (b := 1) rfl (by omega)) ?_
        refine qM rfl rfl rfl <| qO rfl <| op_arith rfl rfl rfl (wadd (a := k) (b := 1) rfl (by omega)) ?_
        refine qA rfl rfl rfl <| qA rfl rfl rfl ?_
        have hnx := he
        rw [both_C (by omega) (by omega) (by first | exact hlt | (exfalso; omega)) hgt, hgx] at hnx
        obtain ⟨hy, hnx⟩ := drop_cons_get hnx
        replace hy : ((bothX a b).map fun x => [encX x])[j]? = some [encX x] := by rw [List.getElem?_map, hy]; rfl
        have hjl := (List.getElem?_eq_some_iff.1 hy).1
        refine qN <| mwp_seq ?_
        rcases Nat.lt_or_eq_of_le hj with hjm | hjm
        ·
         refine qR rfl <| qM rfl rfl rfl <| qM rfl rfl rfl <| qO rfl <| ((hyt j _ hjm hy).at0 rfl rfl rfl).mono ?_
         rintro _ _ ⟨rfl, rfl⟩
         refine qO rfl <| op_not rfl rfl <| qN <| mwp_cond_f rfl (rfl) <| mwp_skip ?_
         refine ⟨⟨j + 1, _, _⟩, by dsimp only; omega, ⟨by dsimp only; omega, by dsimp only; omega, by dsimp only; omega, hnx⟩, rfl, (.keep rfl (.keep rfl (.keep rfl (.nil)))), (.eq rfl (rfl) (.eq rfl (rfl) (.nil)))⟩
        ·
         refine qR rfl <| qM rfl rfl rfl <| qM rfl rfl rfl <| qO rfl <| ((hyf j _ hjm hy).at0 rfl rfl rfl).mono ?_
         rintro _ _ ⟨rfl, rfl⟩
         refine qO rfl <| op_not rfl rfl <| qN <| mwp_cond_t rfl (rfl) ?_
         refine mwp_facts fun hcv hcl => ?_
         refine mwp_ret ?_
         exact ret_noneT (S' := T (j + 1)) (by simp) Tryz.results139 (by rw [(hok _).1, (hok _).1]; exact Nat.le_refl _) hcl ⟨rfl, by rw [hjm, if_pos (by omega)]⟩
    ·
     have hia2 : ¬ i < a.length := by rw [List.length_map] at h35; simp at h35; omega
     refine dS rfl rfl <| dS rfl rfl <| dS rfl rfl <| dS rfl rfl <| dS rfl rfl <| dS rfl rfl <| dS rfl rfl <| dS rfl rfl <| dS rfl rfl <| dO rfl rfl rfl (op_pick rfl rfl rfl ⟨rfl, rfl⟩) <| dO rfl rfl rfl (op_pick rfl rfl rfl ⟨rfl, rfl⟩) <| dO rfl rfl rfl (op_assign rfl rfl ⟨rfl, rfl⟩) <| dOps_nil <| mwp_cond_f rfl (rfl) <| mwp_seq ?_
     refine mwp_draw [] [_] mo (by decide) rfl rfl rfl rfl ?_
     refine dO rfl rfl rfl (op_move rfl rfl ⟨rfl, rfl⟩) <| dO rfl rfl rfl (op_load_ref rfl rfl ((hok _).2.1) ta125 rfl ⟨rfl, rfl⟩) <| dO rfl rfl rfl (op_len_lst rfl Tryz.underlying125 rfl ⟨rfl, rfl⟩) <| dO rfl rfl rfl (op_cmp rfl rfl rfl rfl ⟨rfl, rfl⟩) <| dO rfl rfl rfl (op_move rfl rfl ⟨rfl, rfl⟩) ?_
     refine dOps_case (fun h58 => ?_) (fun h58 => ?_)
     ·
      have hia3 : i = a.length := by rw [List.length_map] at h58; simp at h58; omega
      refine dS rfl rfl <| dS rfl rfl <| dS rfl rfl <| dS rfl rfl <| dS rfl rfl <| dS rfl rfl <| dS rfl rfl <| dS rfl rfl <| dS rfl rfl <| dO rfl rfl rfl (op_pick rfl rfl rfl ⟨rfl, rfl⟩) <| dO rfl rfl rfl (op_assign rfl rfl ⟨rfl, rfl⟩) <| dOps_nil <| mwp_cond_t rfl (rfl) <| mwp_seq ?_
      obtain ⟨y, hs2⟩ : ∃ q, b[k]? = some q := ⟨_, List.getElem?_eq_getElem (by omega)⟩
      have hgy := getDJ_of (d := []) hs2
      refine qR rfl <| qO rfl <| op_load_ref rfl rfl ((hok _).2.2) ta125 rfl <| qM rfl rfl rfl <| qO rfl <| op_indexAddr rfl Tryz.underlying125 sz9 (by decide) rfl rfl rfl (get_map hs2) ?_
      refine qO rfl <| op_load_sptr rfl rfl ta9 rfl <| qA rfl rfl rfl <| qN <| qR rfl <| qM rfl rfl rfl <| qO rfl <| op_arith rfl rfl rfl (wadd (a := k) (b := 1) rfl (by omega)) ?_
      refine qA rfl rfl rfl ?_
      have hnx := he
      rw [both_B (by omega) (by omega) (by first | exact .inl hia3 | exact .inr ⟨hlt, hgt⟩ | exact .inl (by omega)), hgy] at hnx
      obtain ⟨hy, hnx⟩ := drop_cons_get hnx
      replace hy : ((bothX a b).map fun x => [encX x])[j]? = some [encX y] := by rw [List.getElem?_map, hy]; rfl
      have hjl := (List.getElem?_eq_some_iff.1 hy).1
      refine qN <| mwp_seq ?_
      rcases Nat.lt_or_eq_of_le hj with hjm | hjm
      ·
       refine qR rfl <| qM rfl rfl rfl <| qM rfl rfl rfl <| qO rfl <| ((hyt j _ hjm hy).at0 rfl rfl rfl).mono ?_
       rintro _ _ ⟨rfl, rfl⟩
       refine qO rfl <| op_not rfl rfl <| qN <| mwp_cond_f rfl (rfl) <| mwp_skip ?_
       refine ⟨⟨j + 1, _, _⟩, by dsimp only; omega, ⟨by dsimp only; omega, by dsimp only; omega, by dsimp only; omega, hnx⟩, rfl, (.keep rfl (.keep rfl (.keep rfl (.nil)))), (.eq rfl (rfl) (.eq rfl (rfl) (.nil)))⟩
      ·
       refine qR rfl <| qM rfl rfl rfl <| qM rfl rfl rfl <| qO rfl <| ((hyf j _ hjm hy).at0 rfl rfl rfl).mono ?_
       rintro _ _ ⟨rfl, rfl⟩
       refine qO rfl <| op_not rfl rfl <| qN <| mwp_cond_t rfl (rfl) ?_
       refine mwp_facts fun hcv hcl => ?_
       refine mwp_ret ?_
       exact ret_noneT (S' := T (j + 1)) (by simp) Tryz.results139 (by rw [(hok _).1, (hok _).1]; exact Nat.le_refl _) hcl ⟨rfl, by rw [hjm, if_pos (by omega)]⟩
     ·
      have hia3 : ¬ i = a.length := by rw [List.length_map] at h58; simp at h58; omega
      obtain ⟨x, hs⟩ : ∃ q, a[i]? = some q := ⟨_, List.getElem?_eq_getElem (by omega)⟩
      have hgx := getDJ_of (d := []) hs
      obtain ⟨y, hs2⟩ : ∃ q, b[k]? = some q := ⟨_, List.getElem?_eq_getElem (by omega)⟩
      have hgy := getDJ_of (d := []) hs2
      refine dO rfl rfl rfl (op_load_ref rfl rfl ((hok _).2.2) ta125 rfl ⟨rfl, rfl⟩) <| dO rfl rfl rfl (op_move rfl rfl ⟨rfl, rfl⟩) <| dO rfl rfl rfl (op_indexAddr rfl Tryz.underlying125 sz9 (by decide) rfl rfl rfl (get_map hs2) ⟨rfl, rfl⟩) ?_
      refine dO rfl rfl rfl (op_load_sptr rfl rfl ta9 rfl ⟨rfl, rfl⟩) <| dO rfl rfl rfl (op_load_ref rfl rfl ((hok _).2.1) ta125 rfl ⟨rfl, rfl⟩) <| dO rfl rfl rfl (op_move rfl rfl ⟨rfl, rfl⟩) <| dO rfl rfl rfl (op_indexAddr rfl Tryz.underlying125 sz9 (by decide) rfl rfl rfl (get_map hs) ⟨rfl, rfl⟩) ?_
      refine dO rfl rfl rfl (op_load_sptr rfl rfl ta9 rfl ⟨rfl, rfl⟩) <| dO rfl rfl rfl (op_strcmp rfl rfl rfl rfl ⟨rfl, rfl⟩) <| dO rfl rfl rfl (op_pick rfl rfl rfl ⟨rfl, rfl⟩) <| dO rfl rfl rfl (op_assign rfl rfl ⟨rfl, rfl⟩) <| dOps_nil ?_
      refine mwp_cond_split rfl (fun h53 => ?_) (fun h53 => ?_)
      ·
       have hgt : Op.bytesLess (b.getD k []) (a.getD i []) = true := by rw [hgx, hgy]; simpa using h53
       refine mwp_seq ?_
       obtain ⟨y, hs2⟩ : ∃ q, b[k]? = some q := ⟨_, List.getElem?_eq_getElem (by omega)⟩
       have hgy := getDJ_of (d := []) hs2
       refine qR rfl <| qO rfl <| op_load_ref rfl rfl ((hok _).2.2) ta125 rfl <| qM rfl rfl rfl <| qO rfl <| op_indexAddr rfl Tryz.underlying125 sz9 (by decide) rfl rfl rfl (get_map hs2) ?_
       refine qO rfl <| op_load_sptr rfl rfl ta9 rfl <| qA rfl rfl rfl <| qN <| qR rfl <| qM rfl rfl rfl <| qO rfl <| op_arith rfl rfl rfl (wadd (a := k) (b := 1) rfl (by omega)) ?_
       refine qA rfl rfl rfl ?_
       have hnx := he
       rw [both_B (by omega) (by omega) (by first | exact .inl hia3 | exact .inr ⟨hlt, hgt⟩ | exact .inl (by omega)), hgy] at hnx
       obtain ⟨hy, hnx⟩ := drop_cons_get hnx
       replace hy : ((bothX a b).map fun x => [encX x])[j]? = some [encX y] := by rw [List.getElem?_map, hy]; rfl
       have hjl := (List.getElem?_eq_some_iff.1 hy).1
       refine qN <| mwp_seq ?_
       rcases Nat.lt_or_eq_of_le hj with hjm | hjm
       ·
        refine qR rfl <| qM rfl rfl rfl <| qM rfl rfl rfl <| qO rfl <| ((hyt j _ hjm hy).at0 rfl rfl rfl).mono ?_
        rintro _ _ ⟨rfl, rfl⟩
        refine qO rfl <| op_not rfl rfl <| qN <| mwp_cond_f rfl (rfl) <| mwp_skip ?_
        refine ⟨⟨j + 1, _, _⟩, by dsimp only; omega, ⟨by dsimp only; omega, by dsimp only; omega, by dsimp only; omega, hnx⟩, rfl, (.keep rfl (.keep rfl (.keep rfl (.nil)))), (.eq rfl (rfl) (.eq rfl (rfl) (.nil)))⟩
       ·
        refine qR rfl <| qM rfl rfl rfl <| qM rfl rfl rfl <| qO rfl <| ((hyf j _ hjm hy).at0 rfl rfl rfl).mono ?_
        rintro _ _ ⟨rfl, rfl⟩
        refine qO rfl <| op_not rfl rfl <| qN <| mwp_cond_t rfl (rfl) ?_
        refine mwp_facts fun hcv hcl => ?_
        refine mwp_ret ?_
        exact ret_noneT (S' := T (j + 1)) (by simp) Tryz.results139 (by rw [(hok _).1, (hok _).1]; exact Nat.le_refl _) hcl ⟨rfl, by rw [hjm, if_pos (by omega)]⟩
      ·
       have hgt : Op.bytesLess (b.getD k []) (a.getD i []) = false := by rw [hgx, hgy]; simpa using h53
       refine mwp_seq ?_
       obtain ⟨x, hs⟩ : ∃ q, a[i]? = some q := ⟨_, List.getElem?_eq_getElem (by omega)⟩
       have hgx := getDJ_of (d := []) hs
       refine qR rfl <| qO rfl <| op_load_ref rfl rfl ((hok _).2.1) ta125 rfl <| qM rfl rfl rfl <| qO rfl <| op_indexAddr rfl Tryz.underlying125 sz9 (by decide) rfl rfl rfl (get_map hs) ?_
       refine qO rfl <| op_load_sptr rfl rfl ta9 rfl <| qA rfl rfl rfl <| qN <| qR rfl <| qM rfl rfl rfl <| qO rfl <| op_arith rfl rfl rfl (wadd (a := i) (b := 1) rfl (by omega)) ?_
       refine qM rfl rfl rfl <| qO rfl <| op_arith rfl rfl rfl (wadd (a := k) (b := 1) rfl (by omega)) ?_
       refine qA rfl rfl rfl <| qA rfl rfl rfl ?_
       have hnx := he
       rw [both_C (by omega) (by omega) (by first | exact hlt | (exfalso; omega)) hgt, hgx] at hnx
       obtain ⟨hy, hnx⟩ := drop_cons_get hnx
       replace hy : ((bothX a b).map fun x => [encX x])[j]? = some [encX x] := by rw [List.getElem?_map, hy]; rfl
       have hjl := (List.getElem?_eq_some_iff.1 hy).1
       refine qN <| mwp_seq ?_
       rcases Nat.lt_or_eq_of_le hj with hjm | hjm
       ·
        refine qR rfl <| qM rfl rfl rfl <| qM rfl rfl rfl <| qO rfl <| ((hyt j _ hjm hy).at0 rfl rfl rfl).mono ?_
        rintro _ _ ⟨rfl, rfl⟩
        refine qO rfl <| op_not rfl rfl <| qN <| mwp_cond_f rfl (rfl) <| mwp_skip ?_
        refine ⟨⟨j + 1, _, _⟩, by dsimp only; omega, ⟨by dsimp only; omega, by dsimp only; omega, by dsimp only; omega, hnx⟩, rfl, (.keep rfl (.keep rfl (.keep rfl (.nil)))), (.eq rfl (rfl) (.eq rfl (rfl) (.nil)))⟩
       ·
        refine qR rfl <| qM rfl rfl rfl <| qM rfl rfl rfl <| qO rfl <| ((hyf j _ hjm hy).at0 rfl rfl rfl).mono ?_
        rintro _ _ ⟨rfl, rfl⟩
        refine qO rfl <| op_not rfl rfl <| qN <| mwp_cond_t rfl (rfl) ?_
        refine mwp_facts fun hcv hcl => ?_
        refine mwp_ret ?_
        exact ret_noneT (S' := T (j + 1)) (by simp) Tryz.results139 (by rw [(hok _).1, (hok _).1]; exact Nat.le_refl _) hcl ⟨rfl, by rw [hjm, if_pos (by omega)]⟩
  ·
   have hkb : ¬ k < b.length := by rw [List.length_map] at h16; simp at h16; omega
   rw [show i = a.length by omega, show k = b.length by omega, List.drop_length, List.drop_length, both_end] at he
   have hdl := drop_nil_len he
   have hjm : j = m := by omega
   refine mwp_facts fun hcv hcl => ?_
   refine mwp_exit ?_
   exact ret_noneT (S' := T j) (by simp) Tryz.results139 (by rw [(hok _).1, (hok _).1]; exact Nat.le_refl _) hcl ⟨rfl, by rw [hjm, if_neg (by omega)]⟩
theorem with_spec (a b : List Bs) (S : MS) : MCalls Tryz.prog 121 [.lst none 1 (a.map encX), .lst none 1 (b.map encX)] S fun v σ' => v = .fn (.func 139) [] [.ref S.length 0, .ref (S.length + 1) 0] ∧ σ' = S ++ [.cells [.lst none 1 (a.map encX)], .cells [.lst none 1 (b.map encX)]] := by
 refine mcalls_body Tryz.func121 rfl Tryz.ntmps121 (Nat.le_of_ble_eq_true rfl) ?_
 refine mwp_seq <| qR rfl <| qB rfl rfl rfl rfl rfl <| qB rfl rfl rfl rfl rfl <| qA rfl rfl rfl <| qN <| mwp_seq <| qR rfl <| qO rfl <| op_makeFunc rfl rfl rfl <| qA rfl rfl rfl <| qN ?_
 refine mwp_facts fun hcv hcl => ?_
 refine mwp_ret ?_
 exact ret_tmpT (.inr rfl) Tryz.results121 rfl (.refl _) (hcv 4 _ rfl) (by simp) hcl ⟨rfl, rfl⟩
theorem bothL_cl {t d ty n : Nat} {xs a b : List Bs} {o : MObj} (ht : t < d) (ho : o ∈ [MObj.cells [.lst (some t) 1 (xs.map encX)], .cells [.lst none 1 (a.map encX)], .cells [.lst none 1 (b.map encX)], .row ty 1 n]) : o.cl d := by
 simp only [List.mem_cons, List.not_mem_nil, or_false] at ho
 rcases ho with rfl | rfl | rfl | rfl
 ·intro x hx
  simp at hx
  subst hx
  exact cl_lstT ht (cl_encX _) encX_one
 ·intro x hx
  simp at hx
  subst hx
  exact cl_texts _ _
 ·intro x hx
  simp at hx
  subst hx
  exact cl_texts _ _
 ·exact trivial
theorem get_b1 {A R : MS} {o a b c a' : MObj} : ((A ++ [o, a, b, c]) ++ R)[(A ++ [a']).length]? = some a := by rw [List.length_append, List.append_assoc, getElem?_own]; rfl
theorem get_b2 {A R : MS} {o a b c a' : MObj} : ((A ++ [o, a, b, c]) ++ R)[(A ++ [a']).length + 1]? = some b := by rw [List.length_append, List.append_assoc, Nat.add_assoc, getElem?_own]; rfl
theorem rowsBoth_spec (a b : List Bs) (hab : a.length + b.length ≤ 1000000) (S : MS) : MCalls Tryz.prog 101 [.lst none 1 (a.map encX), .lst none 1 (b.map encX)] S fun v σ' => v = .lst none 1 ((bothX a b).map encX) ∧ σ' = S := by
 refine mcalls_body Tryz.func101 rfl Tryz.ntmps101 (Nat.le_of_ble_eq_true rfl) ?_
 refine mwp_seq <| qR rfl <| qA rfl rfl rfl <| qN <| mwp_seq <| qR rfl <| qO rfl <| op_alloc' rfl zm26 rfl rfl <| qN <| mwp_seq <| mwp_seq <| qR rfl <| qM rfl rfl rfl <| qM rfl rfl rfl ?_
 refine wOps_op rfl (op_call rfl rfl rfl co121 ((with_spec a b _).mono ?_))
 rintro _ _ ⟨rfl, rfl⟩
 rw [List.append_assoc S]
 refine qN <| mwp_block <| mwp_cellrow 0 9 1 rfl (Nat.le_refl _) rfl rfl ?_
 refine mwp_rangeB (ok := fun σ => σ.length = S.length + 5 ∧ σ[(S ++ [MObj.cells [.lst0]]).length]? = some (.cells [.lst none 1 (a.map encX)]) ∧ σ[(S ++ [MObj.cells [.lst0]]).length + 1]? = some (.cells [.lst none 1 (b.map encX)])) (ys := (bothX a b).map fun x => [encX x]) .ret (.inl rfl) (fun j => true) (fun j => ([.cells [.lst (some (S.length + 3)) 1 (((bothX a b).take j).map encX)], .cells [.lst none 1 (a.map encX)], .cells [.lst none 1 (b.map encX)], .row 9 1 ((bothX a b).take j).length] : MS)) (fun j => ([.cells [.lst (some (S.length + 3)) 1 (((bothX a b).take j).map encX)], .cells [.lst none 1 (a.map encX)], .cells [.lst none 1 (b.map encX)], .row 9 1 ((bothX a b).take j).length] : MS)) (fun j => rfl) (fun j => rfl) rfl (fun j o ho n hn => bothL_cl (by simp at hn; omega) ho) (fun j o ho n hn => bothL_cl (by simp at hn; omega) ho) rfl co139 rfl (by simp) ((with_iter a b hab _ _ _).weak fun σ h => h.1) (fun j => ⟨by simp only [List.length_append, List.length_cons, List.length_nil], get_b1, get_b2⟩) (fun j s q => ⟨by simp only [List.length_append, List.length_cons, List.length_nil], get_b1, get_b2⟩) rfl (fun y hy => by obtain ⟨i, _, rfl⟩ := List.mem_map.1 hy; rfl) ?_ ?_ ?_
 ·
  intro j y hy hbef L'
  rw [List.getElem?_map] at hy
  obtain ⟨x, hp, rfl⟩ := Option.map_eq_some_iff.1 hy
  have hjl := (List.getElem?_eq_some_iff.1 hp).1
  have hbl := both_len a b
  have htl : ((bothX a b).take j).length ≤ 1000000 := by rw [List.length_take]; omega
  refine qR rfl <| qA rfl rfl rfl <| qN ?_
  refine ⟨rfl, [], by rw [List.append_nil], ?_⟩
  rw [List.append_nil]
  refine mwp_block <| qR rfl <| qO rfl <| op_load_mid rfl rfl rfl ta26 rfl <| qM rfl rfl rfl <| qO rfl <| op_buildSlice rfl Tryz.underlying26 el9 rfl rfl (by decide) (by decide) rfl rfl ?_
  refine qO rfl <| op_append_mid rfl Tryz.underlying26 el9 rfl rfl rfl (by simp) (by simp only [List.length_map, List.length_cons, List.length_nil]; omega) (by simp only [List.length_map, List.length_cons, List.length_nil]; omega) rfl ?_
  refine qO rfl <| op_store_mid rfl rfl rfl rfl sz26 rfl rfl (Nat.le_of_ble_eq_true rfl) rfl <| qN ?_
  exact .inl ⟨rfl, rfl, [], by rw [List.append_nil, List.take_add_one, hp, Option.toList_some, List.map_append, len_snoc]; rfl⟩
 ·
  intro _
  rw [List.append_assoc S]
  rw [List.length_map]
  refine mwp_seq <| qR rfl <| qL rfl rfl rfl rfl ta26 rfl <| qA rfl rfl rfl <| qN <| mwp_ret ?_
  exact ret_tmp (.inr rfl) Tryz.results101 rfl (Sub.trans (.view _ _ _) (.of_eq (by rw [List.take_length]))) (cl_texts _ _) ⟨rfl, rfl⟩
 ·
  intro j y hy hp
  cases hp
end Go.Proofs.YtnfcnpdpfgcchaaGreat
end
section
set_option linter.unusedVariables false
set_option linter.unusedSimpArgs false
namespace Go.MV
open Go Go.RowKit
section
variable {κ : Type} (cmp : κ → κ → Int)
abbrev REnt (κ : Type) := κ × Val
abbrev Ent (κ : Type) := κ × Val × Option Val
def mergeE : List (REnt κ) → List (REnt κ) → List (Ent κ)
  | [], [] => []
  | x :: a, [] => (x.1, x.2, none) :: mergeE a []
  | [], y :: b => (y.1, y.2, none) :: mergeE [] b
  | x :: a, y :: b => if cmp x.1 y.1 < 0 then (x.1, x.2, none) :: mergeE a (y :: b) else if cmp y.1 x.1 < 0 then (y.1, y.2, none) :: mergeE (x :: a) b else (x.1, x.2, some y.2) :: mergeE a b
  termination_by a b => a.length + b.length
def stepE : List (REnt κ) × List (REnt κ) → List (REnt κ) × List (REnt κ)
  | ([], []) => ([], [])
  | (_ :: a, []) => (a, [])
  | ([], _ :: b) => ([], b)
  | (x :: a, y :: b) => if cmp x.1 y.1 < 0 then (a, y :: b) else if cmp y.1 x.1 < 0 then (x :: a, b) else (a, b)
def restE (a b : List (REnt κ)) : Nat → List (REnt κ) × List (REnt κ)
  | 0 => (a, b)
  | j + 1 => stepE cmp (restE a b j)
theorem mergeE_len : ∀ a b : List (REnt κ), (mergeE cmp a b).length ≤ a.length + b.length := by
  intro a b
  induction a, b using mergeE.induct cmp with
  | case1 => simp [mergeE]
  | case2 x a ih => rw [mergeE]; simp at ih ⊢; omega
  | case3 y b ih => rw [mergeE]; simp at ih ⊢; omega
  | case4 x a y b h ih => rw [mergeE, if_pos h]; simp at ih ⊢; omega
  | case5 x a y b h h2 ih => rw [mergeE, if_neg h, if_pos h2]; simp at ih ⊢; omega
  | case6 x a y b h h2 ih => rw [mergeE, if_neg h, if_neg h2]; simp at ih ⊢; omega
end
def ptrE : Option Val → MV
  | none => .ptr0
  | some v => .sptr (encV v).cells
def encR {κ : Type} (ek : κ → MV) (e : REnt κ) : MV := .agg [ek e.1, .sptr (encV e.2).cells, .ptr0]
def encE {κ : Type} (ek : κ → MV) (e : Ent κ) : MV := .agg [ek e.1, .sptr (encV e.2.1).cells, ptrE e.2.2]
theorem cl_sptrV (n : Nat) (v : Val) : Cl n (.sptr (encV v).cells) := .sptr _ fun x hx => by
  have h := cl_encV n v
  cases v with
  | mk a b c d e =>
    cases h with
    | agg _ h => exact h x hx
theorem cl_ptrE (n : Nat) : ∀ o : Option Val, Cl n (ptrE o)
  | none => .ptr0
  | some v => cl_sptrV n v
theorem cl_encR {κ : Type} {ek : κ → MV} (hk : ∀ n k, Cl n (ek k)) (n : Nat) (e : REnt κ) : Cl n (encR ek e) := .agg _ fun x hx => by
  simp only [List.mem_cons, List.not_mem_nil, or_false] at hx
  rcases hx with rfl | rfl | rfl
  · exact hk _ _
  · exact cl_sptrV _ _
  · exact .ptr0
theorem cl_encE {κ : Type} {ek : κ → MV} (hk : ∀ n k, Cl n (ek k)) (n : Nat) (e : Ent κ) : Cl n (encE ek e) := .agg _ fun x hx => by
  simp only [List.mem_cons, List.not_mem_nil, or_false] at hx
  rcases hx with rfl | rfl | rfl
  · exact hk _ _
  · exact cl_sptrV _ _
  · exact cl_ptrE _ _
section
variable {P : Program} {rd : Option Nat} {o : Oper} {env : Env} {K : MV → MS → Prop} {A J C : MS}
theorem op_store_box {t : TypeId} {x y : Operand} {id off : Nat} {l : List MV} {m : MV} {k : Nat} (ho : o.op = .store t x y) (hx : evo env x = some (.ref id off)) (hy : evo env y = some m) (hσ : A[id]? = some (.cells l)) (hk : szOf P t = some k) (hm : m.cells.length = k)
    (h1 : m.cells.all MV.one = true) (hle : off + k ≤ l.length) (h : K (.tup []) ((A.set id (.cells (setMany l off m.cells)) ++ J) ++ C)) : OpWp P rd o env ((A ++ J) ++ C) K := by
  refine op_store ho hx hy (get_app (get_app hσ)) hk hm h1 hle ?_
  rw [set_app (get_app hσ), set_app hσ]
  exact h
end
section
variable {P : Program} {fn : Func} {S S' L : MS} {R : MV → MS → Prop} {env : Env}
theorem ret_cell_tmp {e : Exit} {a t k off t2 : Nat} {l : List MV} {ta : Option Nat} {x y x2 y2 : MV} (he : e = .normal ∨ e = .ret) (hres : fn.results = #[.cell a t, .tmp t2]) (ha : get env a = some (.ref (S.length + k) off)) (hl : L[k]? = some (.cells l)) (ht : tyAgg P t = some ta) (hm : loadMV ta l off = some x) (hs : Sub x y) (hc : Cl S.length y)
    (hx2 : get env t2 = some x2) (hs2 : Sub x2 y2) (hc2 : Cl S.length y2) (hR : R (.tup [y, y2]) S) : BodyQ P fn S R e env (S ++ L) := by
  refine ⟨he, [x, x2], .tup [y, y2], S, L, ?_, .tup (.cons hs (.cons hs2 .nil)), .tup _ (fun z hz => ?_), rfl, Nat.le_refl _, .inl rfl, hR⟩
  · rw [hres]
    exact .cell ha (by rw [getElem?_own]; exact hl) ht hm (.tmp hx2 .nil)
  · simp only [List.mem_cons, List.not_mem_nil, or_false] at hz
    rcases hz with rfl | rfl
    · exact hc
    · exact hc2
theorem ret_cell_cell {e : Exit} {a t k off a2 t2 k2 off2 : Nat} {l l2 : List MV} {ta ta2 : Option Nat} {x y x2 y2 : MV} (he : e = .normal ∨ e = .ret) (hres : fn.results = #[.cell a t, .cell a2 t2]) (ha : get env a = some (.ref (S.length + k) off)) (hl : L[k]? = some (.cells l)) (ht : tyAgg P t = some ta) (hm : loadMV ta l off = some x) (hs : Sub x y) (hc : Cl S.length y)
    (ha2 : get env a2 = some (.ref (S.length + k2) off2)) (hl2 : L[k2]? = some (.cells l2)) (ht2 : tyAgg P t2 = some ta2) (hm2 : loadMV ta2 l2 off2 = some x2) (hs2 : Sub x2 y2) (hc2 : Cl S.length y2) (hR : R (.tup [y, y2]) S) : BodyQ P fn S R e env (S ++ L) := by
  refine ⟨he, [x, x2], .tup [y, y2], S, L, ?_, .tup (.cons hs (.cons hs2 .nil)), .tup _ (fun z hz => ?_), rfl, Nat.le_refl _, .inl rfl, hR⟩
  · rw [hres]
    exact .cell ha (by rw [getElem?_own]; exact hl) ht hm (.cell ha2 (by rw [getElem?_own]; exact hl2) ht2 hm2 .nil)
  · simp only [List.mem_cons, List.not_mem_nil, or_false] at hz
    rcases hz with rfl | rfl
    · exact hc
    · exact hc2
end
theorem get_o0 {A A' R : MS} {a b : MObj} (h : A'.length = A.length) : ((A' ++ [a, b]) ++ R)[A.length + 0]? = some a := by rw [← h]; exact get_mid_ (k := 0) rfl
theorem get_o1 {A A' R : MS} {a b : MObj} (h : A'.length = A.length) : ((A' ++ [a, b]) ++ R)[A.length + 1]? = some b := by rw [← h]; exact get_mid_ (k := 1) rfl
theorem set_o01 {A A' R : MS} {a b a' b' : MObj} (h : A'.length = A.length) : (((A' ++ [a, b]) ++ R).set (A.length + 1) b').set (A.length + 0) a' = (A' ++ [a', b']) ++ R := by
  rw [← h, set_mid_ (k := 1) (ob := b) rfl, set_mid_ (k := 0) (ob := a) rfl]
  rfl
theorem get_o0' {A A' R : MS} {a b b' : MObj} (h : A'.length = A.length) : (((A' ++ [a, b]) ++ R).set (A.length + 1) b')[A.length + 0]? = some a := by
  rw [← h, set_mid_ (k := 1) (ob := b) rfl]
  exact get_mid_ (k := 0) rfl
end Go.MV
end
