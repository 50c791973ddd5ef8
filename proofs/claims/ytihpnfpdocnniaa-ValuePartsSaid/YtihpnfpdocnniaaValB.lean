/-
  Walks of values, second part: what rises, how great one is, siblings (layers 1 and 4).
-/
import Derived.Test.YtihpnfpdocnniaaValA
set_option linter.unusedVariables false
set_option linter.unusedSimpArgs false
set_option maxHeartbeats 400000
namespace Go.Proofs.Ytihpnfpdocnniaa
open Go Go.MV
def pairsY (l : List Bs) : List (List MV) := (List.range (l.length - 1)).map fun i => [encX (l.getD i []), encX (l.getD (i + 1) [])]
theorem pairsY_len (l : List Bs) : (pairsY l).length = l.length - 1 := by simp [pairsY]
theorem pairsY_get {l : List Bs} {i : Nat} {a b : Bs} (ha : l[i]? = some a) (hb : l[i + 1]? = some b) : (pairsY l)[i]? = some [encX a, encX b] := by
  have h1 := (List.getElem?_eq_some_iff.1 hb).1
  unfold pairsY
  rw [List.getElem?_map, List.getElem?_range (by omega)]
  simp [ha, hb]
theorem rises_iff : ∀ l : List Bs, risesF l = true ↔ ∀ i, i + 1 < l.length → Op.bytesLess (l.getD i []) (l.getD (i + 1) []) = true
  | [] => by simp [risesF]
  | [a] => by simp [risesF]
  | a :: b :: l => by
    rw [risesF, Bool.and_eq_true, rises_iff (b :: l)]
    constructor
    · rintro ⟨h1, h2⟩ i hi
      cases i with
      | zero => simpa using h1
      | succ i => simpa using h2 i (by simpa using hi)
    · intro h
      exact ⟨by simpa using h 0 (by simp), fun i hi => by simpa using h (i + 1) (by simpa using hi)⟩
def twoY (l : List (List Tk)) : List (List Tk × List Tk) := match l with
  | [] => []
  | a :: l => l.map (fun b => (a, b)) ++ twoY l
def encP (p : List Tk × List Tk) : List MV := [encC p.1, encC p.2]
theorem two_iff : ∀ l : List (List Tk), pairsF l = true ↔ ∀ p ∈ twoY l, pairF p.1 p.2 = true
  | [] => by simp [pairsF, twoY]
  | a :: l => by
    rw [pairsF, twoY, Bool.and_eq_true, two_iff l, List.all_eq_true]
    simp only [List.mem_append, List.mem_map]
    constructor
    · rintro ⟨h1, h2⟩ p (⟨b, hb, rfl⟩ | hp)
      · exact h1 b hb
      · exact h2 p hp
    · intro h
      exact ⟨fun b hb => h (a, b) (.inl ⟨b, hb, rfl⟩), fun p hp => h p (.inr hp)⟩
theorem drop_cons_get {α : Type} {l r : List α} {a : α} {j : Nat} (h : a :: r = l.drop j) : l[j]? = some a ∧ r = l.drop (j + 1) := by
  have h1 := congrArg (fun q => q[0]?) h
  have h2 := congrArg (List.drop 1) h
  simp only [List.getElem?_cons_zero, List.getElem?_drop, Nat.add_zero] at h1
  refine ⟨h1.symm, ?_⟩
  simpa [List.drop_drop] using h2
theorem drop_nil_len {α : Type} {l : List α} {j : Nat} (h : [] = l.drop j) : l.length ≤ j := by
  have := congrArg List.length h
  simp at this
  omega
theorem drop_at {α : Type} {l : List α} {i : Nat} {a : α} (h : l[i]? = some a) : l.drop i = a :: l.drop (i + 1) := by
  obtain ⟨hlt, e⟩ := List.getElem?_eq_some_iff.1 h
  rw [List.drop_eq_getElem_cons hlt, e]
theorem two_mem : ∀ {l : List (List Tk)} {a b : List Tk}, (a, b) ∈ twoY l → a ∈ l ∧ b ∈ l
  | [], a, b, h => by simp [twoY] at h
  | x :: l, a, b, h => by
    rw [twoY, List.mem_append] at h
    rcases h with h | h
    · obtain ⟨y, hy, e⟩ := List.mem_map.1 h
      injection e with e1 e2
      subst e1 e2
      exact ⟨List.mem_cons_self .., List.mem_cons_of_mem _ hy⟩
    · have := two_mem h
      exact ⟨List.mem_cons_of_mem _ this.1, List.mem_cons_of_mem _ this.2⟩
theorem clock_len {c : List Tk} (h : isClockF c = true) : c.length ≤ 40 := by
  unfold isClockF at h
  simp at h
  omega
def orF (l : List Int) : Int := (l.find? (· != 0)).getD 0
theorem or_two (a b : Int) : orF [a, b] = if a ≠ 0 then a else b := by
  unfold orF
  by_cases h : a = 0
  · by_cases h2 : b = 0
    · simp [h, h2]
    · simp [h, h2]
  · simp [h]
theorem or_cons (a : Int) (l : List Int) : orF (a :: l) = if a ≠ 0 then a else orF l := by
  unfold orF
  by_cases h : a = 0 <;> simp [h]
def encI (n : Int) : MV := .int .i64 n
theorem ticks_at {a b : List Tk} {i : Nat} {x y : Tk} (ha : a[i]? = some x) (hb : b[i]? = some y) : byTicksF (a.drop i) (b.drop i) = if tickC x y ≠ 0 then tickC x y else byTicksF (a.drop (i + 1)) (b.drop (i + 1)) := by
  rw [drop_at ha, drop_at hb, byTicksF]
def findGo {α : Type} (p : α → Bool) : Nat → List α → Int
  | _, [] => -1
  | i, x :: l => if p x then (i : Int) else findGo p (i + 1) l
theorem find_any {α : Type} (p : α → Bool) : ∀ (i : Nat) (l : List α), decide (0 ≤ findGo p i l) = l.any p
  | _, [] => by simp [findGo]
  | i, x :: l => by
    rw [findGo, List.any_cons]
    split
    · rename_i h; simp [h]
    · rename_i h; rw [find_any p (i + 1) l]; simp [h]
theorem find_at {α : Type} {p : α → Bool} {l : List α} {i : Nat} {x : α} (h : l[i]? = some x) : findGo p i (l.drop i) = if p x then (i : Int) else findGo p (i + 1) (l.drop (i + 1)) := by
  rw [drop_at h, findGo]


theorem pairs_iter (l : List Bs) (hlen : l.length ≤ maxLen) (bid l0 : Nat) : IterOk Try.prog 76 [] [.ref bid 0] (pairsY l) (fun σ => σ.length = l0 ∧ σ[bid]? = some (.cells [.lst none 1 (l.map encX)])) := by
  refine iterOk_of fun id T m hok hm hyt hyf => ?_
  refine mcalls_body Try.func76 rfl Try.ntmps76 (Nat.le_of_ble_eq_true rfl) ?_
  rw [List.append_nil]
  show mwp _ _ _ _ _ _ _ (([] : MS) ++ T 0)
  refine mwp_seq ?_
  refine mwp_region rfl ?_
  refine wOps_op rfl (op_assign rfl rfl ?_)
  refine wOps_nil ?_
  refine mwp_block ?_
  refine mwp_loopK (α := Nat) [(0, _), (1, _)] (fun j => [(3, .int .i64 ((j + 1 : Nat) : Int))]) (fun j => T j) (fun j => j ≤ m) (fun j => m + 1 - j) (0) (.keep rfl (.keep rfl (.nil))) (.keep rfl (.nil)) (by omega) (rfl) ?_
  rintro j hj
  refine mwp_seq ?_
  refine mwp_seq ?_
  refine mwp_region rfl ?_
  refine wOps_op rfl (op_move rfl rfl ?_)
  refine wOps_op rfl (op_load_ref rfl rfl (hok _).2 ta72 rfl ?_)
  refine wOps_op rfl (op_len_lst rfl Try.underlying72 rfl ?_)
  refine wOps_op rfl (op_cmp rfl rfl rfl rfl ?_)
  refine wOps_nil ?_
  refine mwp_cond_split rfl (fun h7 => ?_) (fun h7 => ?_)
  · -- yes
    have hlt : j + 1 < l.length := by rw [List.length_map] at h7; simp at h7; omega
    obtain ⟨a, hs⟩ : ∃ a, l[j]? = some a := ⟨_, List.getElem?_eq_getElem (by omega)⟩
    obtain ⟨b, hs2⟩ : ∃ a, l[j + 1]? = some a := ⟨_, List.getElem?_eq_getElem hlt⟩
    have hy := pairsY_get hs hs2
    have hjl : j < (pairsY l).length := (List.getElem?_eq_some_iff.1 hy).1
    refine mwp_skip ?_
    refine mwp_seq ?_
    refine mwp_block ?_
    refine mwp_seq ?_
    rcases Nat.lt_or_eq_of_le hj with hjm | hjm
    ·
      refine mwp_draw [10] [_, T (j + 1)] mo (by decide) rfl rfl rfl rfl ?_
      refine dOps_op rfl rfl (.cons (op_move rfl rfl ⟨rfl, rfl⟩) .nil) ?_
      refine dOps_op rfl rfl (.cons (op_load_ref rfl rfl (hok _).2 ta72 rfl ⟨rfl, rfl⟩) (.cons (op_load_ref rfl rfl (hok _).2 ta72 rfl ⟨rfl, rfl⟩) (.nil))) ?_
      refine dOps_op rfl rfl (.cons (op_move rfl rfl ⟨rfl, rfl⟩) (.cons (op_move rfl rfl ⟨rfl, rfl⟩) (.nil))) ?_
      refine dOps_op rfl rfl (.cons (op_arith rfl rfl rfl (wsub (a := j + 1) (b := 1) (c := j) (by omega) (by simp only [maxLen] at hlen; omega)) ⟨rfl, rfl⟩) (.cons (op_arith rfl rfl rfl (wsub (a := j + 1) (b := 1) (c := j) (by omega) (by simp only [maxLen] at hlen; omega)) ⟨rfl, rfl⟩) (.nil))) ?_
      refine dOps_op rfl rfl (.cons (op_indexAddr rfl Try.underlying72 sz9 (by decide) rfl rfl rfl (get_map hs) ⟨rfl, rfl⟩) (.cons (op_indexAddr rfl Try.underlying72 sz9 (by decide) rfl rfl rfl (get_map hs) ⟨rfl, rfl⟩) (.nil))) ?_
      refine dOps_op rfl rfl (.cons (op_load_sptr rfl rfl ta9 rfl ⟨rfl, rfl⟩) .nil) ?_
      refine dOps_op rfl rfl (.cons (op_load_ref rfl rfl (hok _).2 ta72 rfl ⟨rfl, rfl⟩) (.cons (op_load_ref rfl rfl (hok _).2 ta72 rfl ⟨rfl, rfl⟩) (.nil))) ?_
      refine dOps_op rfl rfl (.cons (op_move rfl rfl ⟨rfl, rfl⟩) (.cons (op_move rfl rfl ⟨rfl, rfl⟩) (.nil))) ?_
      refine dOps_op rfl rfl (.cons (op_indexAddr rfl Try.underlying72 sz9 (by decide) rfl rfl rfl (get_map hs2) ⟨rfl, rfl⟩) (.cons (op_indexAddr rfl Try.underlying72 sz9 (by decide) rfl rfl rfl (get_map hs2) ⟨rfl, rfl⟩) (.nil))) ?_
      refine dOps_op rfl rfl (.cons (op_load_sptr rfl rfl ta9 rfl ⟨rfl, rfl⟩) .nil) ?_
      refine dOps_eff rfl rfl rfl rfl ((hyt j _ hjm hy).at0 rfl rfl rfl) ?_
      refine dOps_op rfl rfl (.cons (op_not rfl rfl ⟨rfl, rfl⟩) .nil) ?_
      refine dOps_nil ?_
      refine mwp_cond_f rfl (rfl) ?_
      refine mwp_skip ?_
      refine mwp_region rfl ?_
      refine wOps_op rfl (op_move rfl rfl ?_)
      refine wOps_op rfl (op_arith rfl rfl rfl rfl ?_)
      refine wOps_op rfl (op_assign rfl rfl ?_)
      refine wOps_nil ?_
      refine ⟨j + 1, by omega, by omega, rfl, (.keep rfl (.keep rfl (.nil))), (.eq rfl (int_succ hlt hlen) (.nil))⟩
    ·
      refine mwp_draw [10] [_, T (j + 1)] mo (by decide) rfl rfl rfl rfl ?_
      refine dOps_op rfl rfl (.cons (op_move rfl rfl ⟨rfl, rfl⟩) .nil) ?_
      refine dOps_op rfl rfl (.cons (op_load_ref rfl rfl (hok _).2 ta72 rfl ⟨rfl, rfl⟩) (.cons (op_load_ref rfl rfl (hok _).2 ta72 rfl ⟨rfl, rfl⟩) (.nil))) ?_
      refine dOps_op rfl rfl (.cons (op_move rfl rfl ⟨rfl, rfl⟩) (.cons (op_move rfl rfl ⟨rfl, rfl⟩) (.nil))) ?_
      refine dOps_op rfl rfl (.cons (op_arith rfl rfl rfl (wsub (a := j + 1) (b := 1) (c := j) (by omega) (by simp only [maxLen] at hlen; omega)) ⟨rfl, rfl⟩) (.cons (op_arith rfl rfl rfl (wsub (a := j + 1) (b := 1) (c := j) (by omega) (by simp only [maxLen] at hlen; omega)) ⟨rfl, rfl⟩) (.nil))) ?_
      refine dOps_op rfl rfl (.cons (op_indexAddr rfl Try.underlying72 sz9 (by decide) rfl rfl rfl (get_map hs) ⟨rfl, rfl⟩) (.cons (op_indexAddr rfl Try.underlying72 sz9 (by decide) rfl rfl rfl (get_map hs) ⟨rfl, rfl⟩) (.nil))) ?_
      refine dOps_op rfl rfl (.cons (op_load_sptr rfl rfl ta9 rfl ⟨rfl, rfl⟩) .nil) ?_
      refine dOps_op rfl rfl (.cons (op_load_ref rfl rfl (hok _).2 ta72 rfl ⟨rfl, rfl⟩) (.cons (op_load_ref rfl rfl (hok _).2 ta72 rfl ⟨rfl, rfl⟩) (.nil))) ?_
      refine dOps_op rfl rfl (.cons (op_move rfl rfl ⟨rfl, rfl⟩) (.cons (op_move rfl rfl ⟨rfl, rfl⟩) (.nil))) ?_
      refine dOps_op rfl rfl (.cons (op_indexAddr rfl Try.underlying72 sz9 (by decide) rfl rfl rfl (get_map hs2) ⟨rfl, rfl⟩) (.cons (op_indexAddr rfl Try.underlying72 sz9 (by decide) rfl rfl rfl (get_map hs2) ⟨rfl, rfl⟩) (.nil))) ?_
      refine dOps_op rfl rfl (.cons (op_load_sptr rfl rfl ta9 rfl ⟨rfl, rfl⟩) .nil) ?_
      refine dOps_eff rfl rfl rfl rfl ((hyf j _ hjm hy).at0 rfl rfl rfl) ?_
      refine dOps_op rfl rfl (.cons (op_not rfl rfl ⟨rfl, rfl⟩) .nil) ?_
      refine dOps_nil ?_
      refine mwp_cond_t rfl (rfl) ?_
      refine mwp_facts fun hcv hcl => ?_
      refine mwp_ret ?_
      exact ret_noneT (S' := T (j + 1)) (by simp) Try.results76 (by rw [(hok _).1, (hok _).1]; exact Nat.le_refl _) hcl ⟨rfl, by rw [hjm, if_pos (by omega)]⟩
  · -- no
    have hge : l.length ≤ j + 1 := by rw [List.length_map] at h7; simp at h7; omega
    have hpl := pairsY_len l
    have hjm : j = m := by omega
    refine mwp_facts fun hcv hcl => ?_
    refine mwp_exit ?_
    exact ret_noneT (S' := T j) (by simp) Try.results76 (by rw [(hok _).1, (hok _).1]; exact Nat.le_refl _) hcl ⟨rfl, by rw [hjm, if_neg (by rw [pairsY_len]; omega)]⟩

theorem pairs_spec (l : List Bs) (S : MS) : MCalls Try.prog 66 [.lst none 1 (l.map encX)] S fun v σ' => v = .fn (.func 76) [] [.ref S.length 0] ∧ σ' = S ++ [.cells [.lst none 1 (l.map encX)]] := by
  refine mcalls_body Try.func66 rfl Try.ntmps66 (Nat.le_of_ble_eq_true rfl) ?_
  refine mwp_seq ?_
  refine mwp_region rfl ?_
  refine wOps_op rfl (op_box' rfl rfl rfl rfl ?_)
  refine wOps_op rfl (op_assign rfl rfl ?_)
  refine wOps_nil ?_
  refine mwp_seq ?_
  refine mwp_region rfl ?_
  refine wOps_op rfl (op_makeFunc rfl rfl rfl ?_)
  refine wOps_op rfl (op_assign rfl rfl ?_)
  refine wOps_nil ?_
  refine mwp_facts fun hcv hcl => ?_
  refine mwp_ret ?_
  exact ret_tmpT (.inr rfl) Try.results66 rfl (.refl _) (hcv 2 _ rfl) (by simp) hcl ⟨rfl, rfl⟩

theorem rowsIs_spec (l : List Bs) (S : MS) : MCalls Try.prog 55 [.lst none 1 (l.map encX)] S fun v σ' => v = .bool (risesF l) ∧ σ' = S := by
  refine mcalls_body Try.func55 rfl Try.ntmps55 (Nat.le_of_ble_eq_true rfl) ?_
  refine mwp_len (t := 0) rfl fun hlen => ?_
  rw [List.length_map] at hlen
  refine mwp_seq ?_
  refine mwp_region rfl ?_
  refine wOps_op rfl (op_alloc' rfl zm4 rfl rfl ?_)
  refine wOps_nil ?_
  refine mwp_seq ?_
  refine mwp_seq ?_
  refine mwp_region rfl ?_
  refine wOps_op rfl (op_move rfl rfl ?_)
  refine wOps_op rfl (op_call rfl rfl rfl co66 ((pairs_spec l _).mono ?_))
  rintro _ _ ⟨rfl, rfl⟩
  rw [List.append_assoc]
  refine wOps_nil ?_
  refine mwp_block ?_
  refine mwp_rangeB (ok := fun σ => σ.length = S.length + 3 ∧ σ[(S ++ [MObj.cells [.bool false]]).length]? = some (.cells [.lst none 1 (l.map encX)])) (ys := pairsY l) .ret (.inl rfl) (fun j => Op.bytesLess (l.getD j []) (l.getD (j + 1) [])) (fun j => ([.cells [.bool false], .cells [.lst none 1 (l.map encX)]] : MS)) (fun j => ([.cells [.bool false], .cells [.lst none 1 (l.map encX)]] : MS)) (fun j => rfl) (fun j => rfl) rfl (fun j o ho n hn => by simp at ho; rcases ho with rfl | rfl <;> intro x hx <;> (simp at hx; subst hx; first | exact .bool _ | exact cl_texts _ _ | exact cl_clocks _ _)) (fun j o ho n hn => by simp at ho; rcases ho with rfl | rfl <;> intro x hx <;> (simp at hx; subst hx; first | exact .bool _ | exact cl_texts _ _ | exact cl_clocks _ _)) rfl co76 rfl (by simp) ((pairs_iter l hlen _ _).weak fun σ h => h.1) (fun j => ⟨by simp, get_box⟩) (fun j s q => ⟨by simp, get_box⟩) rfl (fun y hy => by obtain ⟨i, _, rfl⟩ := List.mem_map.1 hy; rfl) ?_ ?_ ?_
  ·
    intro j y hy hbef L'
    obtain ⟨hjl, hys⟩ := List.getElem?_eq_some_iff.1 hy
    have hpl := pairsY_len l
    obtain ⟨a, hs⟩ : ∃ a, l[j]? = some a := ⟨_, List.getElem?_eq_getElem (by omega)⟩
    obtain ⟨b, hs2⟩ : ∃ a, l[j + 1]? = some a := ⟨_, List.getElem?_eq_getElem (by omega)⟩
    have hyy := pairsY_get hs hs2
    rw [hy] at hyy
    injection hyy with hyy
    subst hyy
    have ha : l.getD j [] = a := by simp [hs]
    have hb : l.getD (j + 1) [] = b := by simp [hs2]
    rw [ha, hb]
    refine mwp_seq ?_
    refine mwp_region rfl ?_
    refine wOps_op rfl (op_assign rfl rfl ?_)
    refine wOps_nil ?_
    refine mwp_region rfl ?_
    refine wOps_op rfl (op_assign rfl rfl ?_)
    refine wOps_nil ?_
    refine ⟨rfl, [], by rw [List.append_nil], ?_⟩
    rw [List.append_nil]
    refine mwp_block ?_
    refine mwp_seq ?_
    refine mwp_region rfl ?_
    refine wOps_op rfl (op_move rfl rfl ?_)
    refine wOps_op rfl (op_move rfl rfl ?_)
    refine wOps_op rfl (op_strcmp rfl rfl rfl rfl ?_)
    refine wOps_nil ?_
    refine mwp_cond_split rfl (fun h11 => ?_) (fun h11 => ?_)
    · -- yes
      refine mwp_seq ?_
      refine mwp_region rfl ?_
      refine wOps_op rfl (op_store_mid rfl rfl rfl rfl sz4 rfl rfl (Nat.le_of_ble_eq_true rfl) rfl ?_)
      refine wOps_nil ?_
      refine mwp_ret ?_
      exact .inr ⟨by simpa using h11, rfl, [], by rw [List.append_nil]; rfl⟩
    · -- no
      refine mwp_skip ?_
      exact .inl ⟨by simpa using h11, rfl, [], by rw [List.append_nil]⟩
  ·
    intro hall
    rw [List.append_assoc]
    have hr : risesF l = true := (rises_iff l).2 fun i hi => hall i (by rw [pairsY_len]; omega)
    refine mwp_seq ?_
    refine mwp_region rfl ?_
    refine wOps_op rfl (op_store' rfl rfl rfl rfl sz4 rfl rfl (Nat.le_of_ble_eq_true rfl) rfl ?_)
    refine wOps_nil ?_
    refine mwp_ret ?_
    exact ret_cell (.inr rfl) Try.results55 rfl rfl ta4 rfl (.refl _) (.bool _) ⟨by rw [hr], rfl⟩
  ·
    intro j y hy hp
    have hjl := (List.getElem?_eq_some_iff.1 hy).1
    rw [pairsY_len] at hjl
    have hr : risesF l = false := by
      cases h : risesF l with
      | false => rfl
      | true => rw [(rises_iff l).1 h j (by omega)] at hp; cases hp
    rw [List.append_assoc]
    exact ret_cell (.inr rfl) Try.results55 rfl rfl ta4 rfl (.refl _) (.bool _) ⟨by rw [hr], rfl⟩

theorem two_iter (l : List (List Tk)) (hlen : l.length ≤ maxLen) (bid l0 : Nat) : IterOk Try.prog 68 [] [.ref bid 0] ((twoY l).map encP) (fun σ => σ.length = l0 ∧ σ[bid]? = some (.cells [.lst none 1 (l.map encC)])) := by
  refine iterOk_of fun id T m hok hm hyt hyf => ?_
  have hml : ((twoY l).map encP).length = (twoY l).length := List.length_map ..
  refine mcalls_body Try.func68 rfl Try.ntmps68 (Nat.le_of_ble_eq_true rfl) ?_
  rw [List.append_nil]
  show mwp _ _ _ _ _ _ _ (([] : MS) ++ T 0)
  refine mwp_seq ?_
  refine mwp_region rfl ?_
  refine wOps_op rfl (op_load_ref rfl rfl (hok _).2 ta27 rfl ?_)
  refine wOps_op rfl (op_len_lst rfl Try.underlying27 rfl ?_)
  refine wOps_op rfl (op_move rfl rfl ?_)
  refine wOps_nil ?_
  refine mwp_block ?_
  refine mwp_loopK (α := Nat × Nat) [(0, _), (1, _), (6, _)] (fun x => [(7, .int .i64 (x.2 : Int))]) (fun x => T x.1) (fun x => x.1 ≤ m ∧ x.2 ≤ l.length ∧ twoY (l.drop x.2) = (twoY l).drop x.1) (fun x => l.length - x.2) (⟨0, 0⟩) (.keep rfl (.keep rfl (.keep rfl (.nil)))) (.keep rfl (.nil)) (⟨by simp, by simp, rfl⟩) (rfl) ?_
  rintro ⟨j, i⟩ ⟨hj, hi, he⟩
  dsimp only at hj hi he ⊢
  refine mwp_seq ?_
  refine mwp_region rfl ?_
  refine wOps_op rfl (op_cmp rfl rfl rfl rfl ?_)
  refine wOps_nil ?_
  refine mwp_seq ?_
  refine mwp_cond_split rfl (fun h8 => ?_) (fun h8 => ?_)
  · -- yes
    have hlt : i < l.length := by rw [List.length_map] at h8; simpa using h8
    obtain ⟨a, hs⟩ : ∃ a, l[i]? = some a := ⟨_, List.getElem?_eq_getElem hlt⟩
    refine mwp_skip ?_
    refine mwp_seq ?_
    refine mwp_block ?_
    refine mwp_seq ?_
    refine mwp_region rfl ?_
    refine wOps_op rfl (op_move rfl rfl ?_)
    refine wOps_op rfl (op_assign rfl rfl ?_)
    refine wOps_nil ?_
    refine mwp_seq ?_
    refine mwp_region rfl ?_
    refine wOps_op rfl (op_move rfl rfl ?_)
    refine wOps_op rfl (op_arith rfl rfl rfl (wadd (a := i) (b := 1) rfl (by simp only [maxLen] at hlen; omega)) ?_)
    refine wOps_op rfl (op_assign rfl rfl ?_)
    refine wOps_nil ?_
    refine mwp_block ?_
    refine mwp_loopK (α := Nat × Nat) [(0, _), (1, _), (3, _), (6, _), (7, _)] (fun y => [(4, .int .i64 (y.2 : Int))]) (fun y => T y.1) (fun y => y.1 ≤ m ∧ y.2 ≤ l.length ∧ (l.drop y.2).map (fun b => (a, b)) ++ twoY (l.drop (i + 1)) = (twoY l).drop y.1) (fun y => l.length - y.2) (⟨j, i + 1⟩) (.keep rfl (.keep rfl (.keep rfl (.keep rfl (.keep rfl (.nil)))))) (.keep rfl (.nil)) (⟨hj, by dsimp only; omega, by dsimp only; rw [← he, drop_at hs, twoY]⟩) (rfl) ?_
    rintro ⟨j2, k⟩ ⟨hj2, hk, he2⟩
    dsimp only at hj2 hk he2 ⊢
    refine mwp_seq ?_
    refine mwp_seq ?_
    refine mwp_region rfl ?_
    refine wOps_op rfl (op_move rfl rfl ?_)
    refine wOps_op rfl (op_load_ref rfl rfl (hok _).2 ta27 rfl ?_)
    refine wOps_op rfl (op_len_lst rfl Try.underlying27 rfl ?_)
    refine wOps_op rfl (op_cmp rfl rfl rfl rfl ?_)
    refine wOps_nil ?_
    refine mwp_cond_split rfl (fun h15 => ?_) (fun h15 => ?_)
    · -- yes
      have hlt2 : k < l.length := by rw [List.length_map] at h15; simpa using h15
      obtain ⟨b, hs2⟩ : ∃ a, l[k]? = some a := ⟨_, List.getElem?_eq_getElem hlt2⟩
      have hnx := he2
      rw [drop_at hs2, List.map_cons, List.cons_append] at hnx
      obtain ⟨hy, hnx⟩ := drop_cons_get hnx
      replace hy : ((twoY l).map encP)[j2]? = some [encC a, encC b] := by rw [List.getElem?_map, hy]; rfl
      have hjl := (List.getElem?_eq_some_iff.1 hy).1
      refine mwp_skip ?_
      refine mwp_seq ?_
      refine mwp_block ?_
      refine mwp_seq ?_
      rcases Nat.lt_or_eq_of_le hj2 with hjm | hjm
      ·
        refine mwp_draw [9] [_, T (j2 + 1)] mo (by decide) rfl rfl rfl rfl ?_
        refine dOps_op rfl rfl (.cons (op_move rfl rfl ⟨rfl, rfl⟩) .nil) ?_
        refine dOps_op rfl rfl (.cons (op_load_ref rfl rfl (hok _).2 ta27 rfl ⟨rfl, rfl⟩) (.cons (op_load_ref rfl rfl (hok _).2 ta27 rfl ⟨rfl, rfl⟩) (.nil))) ?_
        refine dOps_op rfl rfl (.cons (op_move rfl rfl ⟨rfl, rfl⟩) (.cons (op_move rfl rfl ⟨rfl, rfl⟩) (.nil))) ?_
        refine dOps_op rfl rfl (.cons (op_indexAddr rfl Try.underlying27 sz40 (by decide) rfl rfl rfl (get_map hs) ⟨rfl, rfl⟩) (.cons (op_indexAddr rfl Try.underlying27 sz40 (by decide) rfl rfl rfl (get_map hs) ⟨rfl, rfl⟩) (.nil))) ?_
        refine dOps_op rfl rfl (.cons (op_load_sptr rfl rfl ta40 rfl ⟨rfl, rfl⟩) .nil) ?_
        refine dOps_op rfl rfl (.cons (op_load_ref rfl rfl (hok _).2 ta27 rfl ⟨rfl, rfl⟩) (.cons (op_load_ref rfl rfl (hok _).2 ta27 rfl ⟨rfl, rfl⟩) (.nil))) ?_
        refine dOps_op rfl rfl (.cons (op_move rfl rfl ⟨rfl, rfl⟩) (.cons (op_move rfl rfl ⟨rfl, rfl⟩) (.nil))) ?_
        refine dOps_op rfl rfl (.cons (op_indexAddr rfl Try.underlying27 sz40 (by decide) rfl rfl rfl (get_map hs2) ⟨rfl, rfl⟩) (.cons (op_indexAddr rfl Try.underlying27 sz40 (by decide) rfl rfl rfl (get_map hs2) ⟨rfl, rfl⟩) (.nil))) ?_
        refine dOps_op rfl rfl (.cons (op_load_sptr rfl rfl ta40 rfl ⟨rfl, rfl⟩) .nil) ?_
        refine dOps_eff rfl rfl rfl rfl ((hyt j2 _ hjm hy).at0 rfl rfl rfl) ?_
        refine dOps_op rfl rfl (.cons (op_not rfl rfl ⟨rfl, rfl⟩) .nil) ?_
        refine dOps_nil ?_
        refine mwp_cond_f rfl (rfl) ?_
        refine mwp_skip ?_
        refine mwp_region rfl ?_
        refine wOps_op rfl (op_move rfl rfl ?_)
        refine wOps_op rfl (op_arith rfl rfl rfl rfl ?_)
        refine wOps_op rfl (op_assign rfl rfl ?_)
        refine wOps_nil ?_
        refine ⟨⟨j2 + 1, k + 1⟩, by dsimp only; omega, ⟨by dsimp only; omega, by dsimp only; omega, hnx⟩, rfl, (.keep rfl (.keep rfl (.keep rfl (.keep rfl (.keep rfl (.nil)))))), (.eq rfl (int_succ hlt2 hlen) (.nil))⟩
      ·
        refine mwp_draw [9] [_, T (j2 + 1)] mo (by decide) rfl rfl rfl rfl ?_
        refine dOps_op rfl rfl (.cons (op_move rfl rfl ⟨rfl, rfl⟩) .nil) ?_
        refine dOps_op rfl rfl (.cons (op_load_ref rfl rfl (hok _).2 ta27 rfl ⟨rfl, rfl⟩) (.cons (op_load_ref rfl rfl (hok _).2 ta27 rfl ⟨rfl, rfl⟩) (.nil))) ?_
        refine dOps_op rfl rfl (.cons (op_move rfl rfl ⟨rfl, rfl⟩) (.cons (op_move rfl rfl ⟨rfl, rfl⟩) (.nil))) ?_
        refine dOps_op rfl rfl (.cons (op_indexAddr rfl Try.underlying27 sz40 (by decide) rfl rfl rfl (get_map hs) ⟨rfl, rfl⟩) (.cons (op_indexAddr rfl Try.underlying27 sz40 (by decide) rfl rfl rfl (get_map hs) ⟨rfl, rfl⟩) (.nil))) ?_
        refine dOps_op rfl rfl (.cons (op_load_sptr rfl rfl ta40 rfl ⟨rfl, rfl⟩) .nil) ?_
        refine dOps_op rfl rfl (.cons (op_load_ref rfl rfl (hok _).2 ta27 rfl ⟨rfl, rfl⟩) (.cons (op_load_ref rfl rfl (hok _).2 ta27 rfl ⟨rfl, rfl⟩) (.nil))) ?_
        refine dOps_op rfl rfl (.cons (op_move rfl rfl ⟨rfl, rfl⟩) (.cons (op_move rfl rfl ⟨rfl, rfl⟩) (.nil))) ?_
        refine dOps_op rfl rfl (.cons (op_indexAddr rfl Try.underlying27 sz40 (by decide) rfl rfl rfl (get_map hs2) ⟨rfl, rfl⟩) (.cons (op_indexAddr rfl Try.underlying27 sz40 (by decide) rfl rfl rfl (get_map hs2) ⟨rfl, rfl⟩) (.nil))) ?_
        refine dOps_op rfl rfl (.cons (op_load_sptr rfl rfl ta40 rfl ⟨rfl, rfl⟩) .nil) ?_
        refine dOps_eff rfl rfl rfl rfl ((hyf j2 _ hjm hy).at0 rfl rfl rfl) ?_
        refine dOps_op rfl rfl (.cons (op_not rfl rfl ⟨rfl, rfl⟩) .nil) ?_
        refine dOps_nil ?_
        refine mwp_cond_t rfl (rfl) ?_
        refine mwp_facts fun hcv hcl => ?_
        refine mwp_ret ?_
        exact ret_noneT (S' := T (j2 + 1)) (by simp) Try.results68 (by rw [(hok _).1, (hok _).1]; exact Nat.le_refl _) hcl ⟨rfl, by rw [hjm, if_pos (by omega)]⟩
    · -- no
      have hge2 : k = l.length := by rw [List.length_map] at h15; simp at h15; omega
      refine mwp_exit ?_
      refine mwp_region rfl ?_
      refine wOps_op rfl (op_arith rfl rfl rfl rfl ?_)
      refine wOps_op rfl (op_move rfl rfl ?_)
      refine wOps_nil ?_
      refine ⟨⟨j2, i + 1⟩, by dsimp only; omega, ⟨by dsimp only; omega, by dsimp only; omega, by rw [hge2, List.drop_length] at he2; exact he2⟩, rfl, (.keep rfl (.keep rfl (.keep rfl (.nil)))), (.eq rfl (int_succ hlt hlen) (.nil))⟩
  · -- no
    have hge : i = l.length := by rw [List.length_map] at h8; simp at h8; omega
    rw [hge, List.drop_length] at he
    have hdl := drop_nil_len he
    have hjm : j = m := by omega
    refine mwp_facts fun hcv hcl => ?_
    refine mwp_exit ?_
    exact ret_noneT (S' := T j) (by simp) Try.results68 (by rw [(hok _).1, (hok _).1]; exact Nat.le_refl _) hcl ⟨rfl, by rw [hjm, if_neg (by omega)]⟩

theorem two_spec (l : List (List Tk)) (S : MS) : MCalls Try.prog 59 [.lst none 1 (l.map encC)] S fun v σ' => v = .fn (.func 68) [] [.ref S.length 0] ∧ σ' = S ++ [.cells [.lst none 1 (l.map encC)]] := by
  refine mcalls_body Try.func59 rfl Try.ntmps59 (Nat.le_of_ble_eq_true rfl) ?_
  refine mwp_seq ?_
  refine mwp_region rfl ?_
  refine wOps_op rfl (op_box' rfl rfl rfl rfl ?_)
  refine wOps_op rfl (op_assign rfl rfl ?_)
  refine wOps_nil ?_
  refine mwp_seq ?_
  refine mwp_region rfl ?_
  refine wOps_op rfl (op_makeFunc rfl rfl rfl ?_)
  refine wOps_op rfl (op_assign rfl rfl ?_)
  refine wOps_nil ?_
  refine mwp_facts fun hcv hcl => ?_
  refine mwp_ret ?_
  exact ret_tmpT (.inr rfl) Try.results59 rfl (.refl _) (hcv 2 _ rfl) (by simp) hcl ⟨rfl, rfl⟩

theorem isNaNu_spec (m : Int) (S : MS) : MCalls Try.prog 78 [.int .u64 m] S fun v σ' => v = .bool false ∧ σ' = S := by
  refine mcalls_body Try.func78 rfl Try.ntmps78 (Nat.le_of_ble_eq_true rfl) ?_
  refine mwp_seq ?_
  refine mwp_region rfl ?_
  refine wOps_op rfl (op_assign rfl rfl ?_)
  refine wOps_nil ?_
  refine mwp_seq ?_
  refine mwp_region rfl ?_
  refine wOps_op rfl (op_move rfl rfl ?_)
  refine wOps_op rfl (op_move rfl rfl ?_)
  refine wOps_op rfl (op_cmp rfl rfl rfl rfl ?_)
  refine wOps_op rfl (op_assign rfl rfl ?_)
  refine wOps_nil ?_
  refine mwp_ret ?_
  exact ret_tmp (.inr rfl) Try.results78 rfl (.of_eq (by simp)) (.bool _) ⟨rfl, rfl⟩

theorem compareu_spec (m n : Int) (S : MS) : MCalls Try.prog 73 [.int .u64 m, .int .u64 n] S fun v σ' => v = .int .i64 (cmpI m n) ∧ σ' = S := by
  refine mcalls_body Try.func73 rfl Try.ntmps73 (Nat.le_of_ble_eq_true rfl) ?_
  refine mwp_seq ?_
  refine mwp_region rfl ?_
  refine wOps_op rfl (op_assign rfl rfl ?_)
  refine wOps_nil ?_
  refine mwp_seq ?_
  refine mwp_region rfl ?_
  refine wOps_op rfl (op_move rfl rfl ?_)
  refine wOps_op rfl (op_call rfl rfl rfl co78 ((isNaNu_spec m _).mono ?_))
  rintro _ _ ⟨rfl, rfl⟩
  refine wOps_op rfl (op_assign rfl rfl ?_)
  refine wOps_nil ?_
  refine mwp_seq ?_
  refine mwp_region rfl ?_
  refine wOps_op rfl (op_move rfl rfl ?_)
  refine wOps_op rfl (op_call rfl rfl rfl co78 ((isNaNu_spec n _).mono ?_))
  rintro _ _ ⟨rfl, rfl⟩
  refine wOps_op rfl (op_assign rfl rfl ?_)
  refine wOps_nil ?_
  refine mwp_seq ?_
  refine mwp_seq ?_
  refine mwp_region rfl ?_
  refine wOps_op rfl (op_move rfl rfl ?_)
  refine wOps_nil ?_
  refine mwp_cond_f rfl (rfl) ?_
  refine mwp_skip ?_
  refine mwp_seq ?_
  refine mwp_seq ?_
  refine mwp_region rfl ?_
  refine wOps_op rfl (op_move rfl rfl ?_)
  refine wOps_nil ?_
  refine mwp_cond_f rfl (rfl) ?_
  refine mwp_skip ?_
  refine mwp_seq ?_
  refine mwp_seq ?_
  refine mwp_region rfl ?_
  refine wOps_op rfl (op_move rfl rfl ?_)
  refine wOps_op rfl (op_move rfl rfl ?_)
  refine wOps_op rfl (op_cmp rfl rfl rfl rfl ?_)
  refine wOps_nil ?_
  refine mwp_cond_split rfl (fun h16 => ?_) (fun h16 => ?_)
  · -- yes
    refine mwp_seq ?_
    refine mwp_region rfl ?_
    refine wOps_op rfl (op_assign rfl rfl ?_)
    refine wOps_nil ?_
    refine mwp_ret ?_
    exact ret_tmp (.inr rfl) Try.results73 rfl (.of_eq (by unfold cmpI; simp_all <;> omega)) (.int _ _) ⟨rfl, rfl⟩
  · -- no
    refine mwp_skip ?_
    refine mwp_seq ?_
    refine mwp_seq ?_
    refine mwp_region rfl ?_
    refine wOps_op rfl (op_move rfl rfl ?_)
    refine wOps_op rfl (op_move rfl rfl ?_)
    refine wOps_op rfl (op_cmp rfl rfl rfl rfl ?_)
    refine wOps_nil ?_
    refine mwp_cond_split rfl (fun h19 => ?_) (fun h19 => ?_)
    · -- yes
      refine mwp_seq ?_
      refine mwp_region rfl ?_
      refine wOps_op rfl (op_assign rfl rfl ?_)
      refine wOps_nil ?_
      refine mwp_ret ?_
      exact ret_tmp (.inr rfl) Try.results73 rfl (.of_eq (by unfold cmpI; simp_all <;> omega)) (.int _ _) ⟨rfl, rfl⟩
    · -- no
      refine mwp_skip ?_
      refine mwp_seq ?_
      refine mwp_region rfl ?_
      refine wOps_op rfl (op_assign rfl rfl ?_)
      refine wOps_nil ?_
      refine mwp_ret ?_
      exact ret_tmp (.inr rfl) Try.results73 rfl (.of_eq (by unfold cmpI; simp_all <;> omega)) (.int _ _) ⟨rfl, rfl⟩

theorem cmpOr_spec (l : List Int) (S : MS) : MCalls Try.prog 71 [.lst none 1 (l.map encI)] S fun v σ' => v = .int .i64 (orF l) ∧ σ' = S := by
  refine mcalls_body Try.func71 rfl Try.ntmps71 (Nat.le_of_ble_eq_true rfl) ?_
  refine mwp_len (t := 0) rfl fun hlen => ?_
  rw [List.length_map] at hlen
  refine mwp_seq ?_
  refine mwp_region rfl ?_
  refine wOps_op rfl (op_assign rfl rfl ?_)
  refine wOps_nil ?_
  refine mwp_seq ?_
  refine mwp_region rfl ?_
  refine wOps_op rfl (op_assign rfl rfl ?_)
  refine wOps_nil ?_
  refine mwp_seq ?_
  refine mwp_seq ?_
  refine mwp_region rfl ?_
  refine wOps_op rfl (op_move rfl rfl ?_)
  refine wOps_op rfl (op_len_lst rfl Try.underlying82 rfl ?_)
  refine wOps_op rfl (op_move rfl rfl ?_)
  refine wOps_nil ?_
  refine mwp_block ?_
  refine mwp_loopK (α := Nat) [(3, _), (6, _), (7, _)] (fun i => [(8, .int .i64 (i : Int))]) (fun i => []) (fun i => i ≤ l.length ∧ orF (l.drop i) = orF l) (fun i => l.length - i) (0) (.keep rfl (.keep rfl (.keep rfl (.nil)))) (.keep rfl (.nil)) (⟨by omega, rfl⟩) (rfl) ?_
  rintro i ⟨hi, he⟩
  refine mwp_seq ?_
  refine mwp_region rfl ?_
  refine wOps_op rfl (op_cmp rfl rfl rfl rfl ?_)
  refine wOps_nil ?_
  refine mwp_seq ?_
  refine mwp_cond_split rfl (fun h9 => ?_) (fun h9 => ?_)
  · -- yes
    have hlt : i < l.length := by simpa using h9
    obtain ⟨a, hs⟩ : ∃ q_, l[i]? = some q_ := ⟨_, List.getElem?_eq_getElem hlt⟩
    refine mwp_skip ?_
    refine mwp_seq ?_
    refine mwp_block ?_
    refine mwp_seq ?_
    refine mwp_region rfl ?_
    refine wOps_op rfl (op_indexAddr rfl Try.underlying82 sz3 (by decide) rfl rfl rfl (get_map hs) ?_)
    refine wOps_op rfl (op_load_sptr rfl rfl ta3 rfl ?_)
    refine wOps_op rfl (op_assign rfl rfl ?_)
    refine wOps_nil ?_
    refine mwp_seq ?_
    refine mwp_region rfl ?_
    refine wOps_op rfl (op_move rfl rfl ?_)
    refine wOps_op rfl (op_move rfl rfl ?_)
    refine wOps_op rfl (op_cmp rfl rfl rfl rfl ?_)
    refine wOps_nil ?_
    refine mwp_cond_split rfl (fun h14 => ?_) (fun h14 => ?_)
    · -- yes
      refine mwp_seq ?_
      refine mwp_region rfl ?_
      refine wOps_op rfl (op_move rfl rfl ?_)
      refine wOps_op rfl (op_assign rfl rfl ?_)
      refine wOps_nil ?_
      refine mwp_ret ?_
      exact ret_tmp (.inr rfl) Try.results71 rfl (.of_eq (by rw [← he, drop_at hs, or_cons, if_pos (by simpa using h14)]; rfl)) (.int _ _) ⟨rfl, rfl⟩
    · -- no
      refine mwp_skip ?_
      refine mwp_region rfl ?_
      refine wOps_op rfl (op_arith rfl rfl rfl rfl ?_)
      refine wOps_op rfl (op_move rfl rfl ?_)
      refine wOps_nil ?_
      refine ⟨i + 1, by omega, ⟨by omega, by rw [← he, drop_at hs, or_cons, if_neg (by simpa using h14)]⟩, rfl, (.keep rfl (.keep rfl (.keep rfl (.nil)))), (.eq rfl (int_succ hlt hlen) (.nil))⟩
  · -- no
    have hge : i = l.length := by simp at h9; omega
    refine mwp_exit ?_
    refine mwp_seq ?_
    refine mwp_region rfl ?_
    refine wOps_op rfl (op_move rfl rfl ?_)
    refine wOps_op rfl (op_assign rfl rfl ?_)
    refine wOps_nil ?_
    refine mwp_ret ?_
    exact ret_tmp (.inr rfl) Try.results71 rfl (.of_eq (by rw [← he, hge, List.drop_length]; rfl)) (.int _ _) ⟨rfl, rfl⟩

theorem byTicks1_spec (x y : Tk) (S : MS) : MCalls Try.prog 70 [encT x, encT y] S fun v σ' => v = .int .i64 (tickC x y) ∧ σ' = S := by
  refine mcalls_body Try.func70 rfl Try.ntmps70 (Nat.le_of_ble_eq_true rfl) ?_
  refine mwp_seq ?_
  refine mwp_region rfl ?_
  refine wOps_op rfl (op_box' rfl rfl rfl rfl ?_)
  refine wOps_op rfl (op_box' rfl rfl rfl rfl ?_)
  refine wOps_op rfl (op_assign rfl rfl ?_)
  refine wOps_nil ?_
  refine mwp_seq ?_
  refine mwp_draw [] [_] mo (by decide) rfl rfl rfl rfl ?_
  refine dOps_op rfl rfl (.cons (op_fieldAddr_ref rfl rfl fo39_0 ⟨rfl, rfl⟩) .nil) ?_
  refine dOps_op rfl rfl (.cons (op_load' rfl rfl rfl ta3 rfl ⟨rfl, rfl⟩) .nil) ?_
  refine dOps_op rfl rfl (.cons (op_fieldAddr_ref rfl rfl fo39_0 ⟨rfl, rfl⟩) .nil) ?_
  refine dOps_op rfl rfl (.cons (op_load' rfl rfl rfl ta3 rfl ⟨rfl, rfl⟩) .nil) ?_
  refine dOps_op rfl rfl (.cons (op_call rfl rfl rfl co72 (compare_spec x.1 y.1 _)) .nil) ?_
  refine dOps_op rfl rfl (.cons (op_fieldAddr_ref rfl rfl fo39_1 ⟨rfl, rfl⟩) .nil) ?_
  refine dOps_op rfl rfl (.cons (op_load' rfl rfl rfl ta25 rfl ⟨rfl, rfl⟩) .nil) ?_
  refine dOps_op rfl rfl (.cons (op_fieldAddr_ref rfl rfl fo39_1 ⟨rfl, rfl⟩) .nil) ?_
  refine dOps_op rfl rfl (.cons (op_load' rfl rfl rfl ta25 rfl ⟨rfl, rfl⟩) .nil) ?_
  refine dOps_op rfl rfl (.cons (op_call rfl rfl rfl co73 (compareu_spec x.2 y.2 _)) .nil) ?_
  refine dOps_op rfl rfl (.cons (op_buildSlice rfl Try.underlying82 el3 rfl rfl (by decide) (by decide) rfl rfl ⟨rfl, rfl⟩) .nil) ?_
  refine dOps_op rfl rfl (.cons (op_call rfl rfl rfl co71 (cmpOr_spec [cmpI x.1 y.1, cmpI x.2 y.2] _)) .nil) ?_
  refine dOps_op rfl rfl (.cons (op_assign rfl rfl ⟨rfl, rfl⟩) .nil) ?_
  refine dOps_nil ?_
  refine mwp_ret ?_
  exact ret_tmp (.inr rfl) Try.results70 rfl (.of_eq (by rw [or_two]; rfl)) (.int _ _) ⟨rfl, rfl⟩

theorem cmpFuncT_spec (a b : List Tk) (S : MS) : MCalls Try.prog 69 [.lst none 2 (a.map encT), .lst none 2 (b.map encT), .fn (.func 70) [] []] S fun v σ' => v = .int .i64 (byTicksF a b) ∧ σ' = S := by
  refine mcalls_body Try.func69 rfl Try.ntmps69 (Nat.le_of_ble_eq_true rfl) ?_
  refine mwp_len (t := 0) rfl fun hlen => ?_
  rw [List.length_map] at hlen
  refine mwp_seq ?_
  refine mwp_region rfl ?_
  refine wOps_op rfl (op_assign rfl rfl ?_)
  refine wOps_nil ?_
  refine mwp_seq ?_
  refine mwp_seq ?_
  refine mwp_region rfl ?_
  refine wOps_op rfl (op_move rfl rfl ?_)
  refine wOps_op rfl (op_len_lst rfl Try.underlying40 rfl ?_)
  refine wOps_op rfl (op_move rfl rfl ?_)
  refine wOps_nil ?_
  refine mwp_block ?_
  refine mwp_loopKJ (α := Nat) [(0, _), (1, _), (2, _), (11, _), (12, _)] (fun i => [(13, .int .i64 (i : Int))]) (fun i => []) (fun i => i ≤ a.length ∧ i ≤ b.length ∧ byTicksF (a.drop i) (b.drop i) = byTicksF a b) (fun i => a.length - i) (0) (Nat.le_refl _) (.keep rfl (.keep rfl (.keep rfl (.keep rfl (.keep rfl (.nil)))))) (.keep rfl (.nil)) (⟨by omega, by omega, rfl⟩) (rfl) ?_
  rintro i ⟨hi, hib, he⟩
  refine mwp_seq ?_
  refine mwp_region rfl ?_
  refine wOps_op rfl (op_cmp rfl rfl rfl rfl ?_)
  refine wOps_nil ?_
  refine mwp_seq ?_
  refine mwp_cond_split rfl (fun h14 => ?_) (fun h14 => ?_)
  · -- yes
    have hlt : i < a.length := by simpa using h14
    obtain ⟨x, hs⟩ : ∃ q_, a[i]? = some q_ := ⟨_, List.getElem?_eq_getElem hlt⟩
    refine mwp_skip ?_
    refine mwp_seq ?_
    refine mwp_block ?_
    refine mwp_seq ?_
    refine mwp_region rfl ?_
    refine wOps_op rfl (op_move rfl rfl ?_)
    refine wOps_op rfl (op_indexAddr rfl Try.underlying40 sz39 (by decide) rfl rfl rfl (get_map hs) ?_)
    refine wOps_op rfl (op_load_sptr rfl rfl ta39 rfl ?_)
    refine wOps_op rfl (op_alloc' rfl zm39 rfl rfl ?_)
    refine wOps_op rfl (op_assign rfl rfl ?_)
    refine wOps_op rfl (op_store' rfl rfl rfl rfl sz39 rfl rfl (Nat.le_of_ble_eq_true rfl) rfl ?_)
    refine wOps_nil ?_
    refine mwp_seq ?_
    refine mwp_seq ?_
    refine mwp_region rfl ?_
    refine wOps_op rfl (op_move rfl rfl ?_)
    refine wOps_op rfl (op_move rfl rfl ?_)
    refine wOps_op rfl (op_len_lst rfl Try.underlying40 rfl ?_)
    refine wOps_op rfl (op_cmp rfl rfl rfl rfl ?_)
    refine wOps_nil ?_
    refine mwp_cond_split rfl (fun h21 => ?_) (fun h21 => ?_)
    · -- yes
      have hbe : b.drop i = [] := by rw [List.length_map] at h21; simp at h21; exact List.drop_eq_nil_of_le (by omega)
      refine mwp_seq ?_
      refine mwp_region rfl ?_
      refine wOps_op rfl (op_assign rfl rfl ?_)
      refine wOps_nil ?_
      refine mwp_ret ?_
      exact ret_tmp (.inr rfl) Try.results69 rfl (.of_eq (by rw [← he, hbe, drop_at hs]; rfl)) (.int _ _) ⟨rfl, rfl⟩
    · -- no
      have hltb : i < b.length := by rw [List.length_map] at h21; simp at h21; omega
      obtain ⟨y, hs2⟩ : ∃ s, b[i]? = some s := ⟨_, List.getElem?_eq_getElem hltb⟩
      refine mwp_skip ?_
      refine mwp_seq ?_
      refine mwp_region rfl ?_
      refine wOps_op rfl (op_move rfl rfl ?_)
      refine wOps_op rfl (op_move rfl rfl ?_)
      refine wOps_op rfl (op_indexAddr rfl Try.underlying40 sz39 (by decide) rfl rfl rfl (get_map hs2) ?_)
      refine wOps_op rfl (op_load_sptr rfl rfl ta39 rfl ?_)
      refine wOps_op rfl (op_alloc' rfl zm39 rfl rfl ?_)
      refine wOps_op rfl (op_store' rfl rfl rfl rfl sz39 rfl rfl (Nat.le_of_ble_eq_true rfl) rfl ?_)
      refine wOps_nil ?_
      refine mwp_seq ?_
      refine mwp_region rfl ?_
      refine wOps_op rfl (op_move rfl rfl ?_)
      refine wOps_op rfl (op_load' rfl rfl rfl ta39 rfl ?_)
      refine wOps_op rfl (op_load' rfl rfl rfl ta39 rfl ?_)
      refine wOps_op rfl (op_call rfl rfl rfl co70 ((byTicks1_spec x y _).mono ?_))
      rintro _ _ ⟨rfl, rfl⟩
      refine wOps_op rfl (op_assign rfl rfl ?_)
      refine wOps_nil ?_
      refine mwp_seq ?_
      refine mwp_region rfl ?_
      refine wOps_op rfl (op_move rfl rfl ?_)
      refine wOps_op rfl (op_cmp rfl rfl rfl rfl ?_)
      refine wOps_nil ?_
      refine mwp_cond_split rfl (fun h31 => ?_) (fun h31 => ?_)
      · -- yes
        refine mwp_seq ?_
        refine mwp_region rfl ?_
        refine wOps_op rfl (op_move rfl rfl ?_)
        refine wOps_op rfl (op_assign rfl rfl ?_)
        refine wOps_nil ?_
        refine mwp_ret ?_
        exact ret_tmp (.inr rfl) Try.results69 rfl (.of_eq (by rw [← he, ticks_at hs hs2, if_pos (by simpa using h31)])) (.int _ _) ⟨rfl, rfl⟩
      · -- no
        refine mwp_skip ?_
        refine mwp_region rfl ?_
        refine wOps_op rfl (op_arith rfl rfl rfl rfl ?_)
        refine wOps_op rfl (op_move rfl rfl ?_)
        refine wOps_nil ?_
        refine ⟨i + 1, _, by omega, ⟨by omega, by omega, by rw [← he, ticks_at hs hs2, if_neg (by simpa using h31)]⟩, rfl, .nil, (.old rfl rfl (.old rfl rfl (.old rfl rfl (.old rfl rfl (.old rfl rfl (.nil)))))), (.new' rfl (int_succ hlt hlen) (.int _ _) (.nil))⟩
  · -- no
    have hge : i = a.length := by simp at h14; omega
    refine mwp_exit ?_
    refine mwp_seq ?_
    refine mwp_seq ?_
    refine mwp_region rfl ?_
    refine wOps_op rfl (op_move rfl rfl ?_)
    refine wOps_op rfl (op_len_lst rfl Try.underlying40 rfl ?_)
    refine wOps_op rfl (op_move rfl rfl ?_)
    refine wOps_op rfl (op_len_lst rfl Try.underlying40 rfl ?_)
    refine wOps_op rfl (op_cmp rfl rfl rfl rfl ?_)
    refine wOps_nil ?_
    refine mwp_cond_split rfl (fun h38 => ?_) (fun h38 => ?_)
    · -- yes
      refine mwp_seq ?_
      refine mwp_region rfl ?_
      refine wOps_op rfl (op_assign rfl rfl ?_)
      refine wOps_nil ?_
      refine mwp_ret ?_
      exact ret_tmp (.inr rfl) Try.results69 rfl (.of_eq (by simp at h38; rw [← he, hge, List.drop_length, drop_at (List.getElem?_eq_getElem (by omega : a.length < b.length))]; rfl)) (.int _ _) ⟨rfl, rfl⟩
    · -- no
      refine mwp_skip ?_
      refine mwp_seq ?_
      refine mwp_region rfl ?_
      refine wOps_op rfl (op_assign rfl rfl ?_)
      refine wOps_nil ?_
      refine mwp_ret ?_
      exact ret_tmp (.inr rfl) Try.results69 rfl (.of_eq (by simp at h38; rw [← he, hge, List.drop_length, List.drop_eq_nil_of_le (by omega : b.length ≤ a.length)]; rfl)) (.int _ _) ⟨rfl, rfl⟩

theorem byTicks_spec (a b : List Tk) (S : MS) : MCalls Try.prog 60 [.lst none 2 (a.map encT), .lst none 2 (b.map encT)] S fun v σ' => v = .int .i64 (byTicksF a b) ∧ σ' = S := by
  refine mcalls_body Try.func60 rfl Try.ntmps60 (Nat.le_of_ble_eq_true rfl) ?_
  refine mwp_seq ?_
  refine mwp_region rfl ?_
  refine wOps_op rfl (op_assign rfl rfl ?_)
  refine wOps_nil ?_
  refine mwp_seq ?_
  refine mwp_region rfl ?_
  refine wOps_op rfl (op_move rfl rfl ?_)
  refine wOps_op rfl (op_move rfl rfl ?_)
  refine wOps_op rfl (op_call rfl rfl rfl co69 ((cmpFuncT_spec a b _).mono ?_))
  rintro _ _ ⟨rfl, rfl⟩
  refine wOps_op rfl (op_assign rfl rfl ?_)
  refine wOps_nil ?_
  refine mwp_ret ?_
  exact ret_tmp (.inr rfl) Try.results60 rfl (.of_eq (rfl)) (.int _ _) ⟨rfl, rfl⟩

theorem isCause_spec (l : List (List Tk)) (S : MS) : MCalls Try.prog 41 [.lst none 1 (l.map encC)] S fun v σ' => v = .bool (isCauseF l) ∧ σ' = S := by
  refine mcalls_body Try.func41 rfl Try.ntmps41 (Nat.le_of_ble_eq_true rfl) ?_
  refine mwp_len (t := 0) rfl fun hlen => ?_
  rw [List.length_map] at hlen
  refine mwp_seq ?_
  refine mwp_region rfl ?_
  refine wOps_op rfl (op_alloc' rfl zm4 rfl rfl ?_)
  refine wOps_nil ?_
  refine mwp_seq ?_
  refine mwp_seq ?_
  refine mwp_region rfl ?_
  refine wOps_op rfl (op_move rfl rfl ?_)
  refine wOps_op rfl (op_len_lst rfl Try.underlying27 rfl ?_)
  refine wOps_op rfl (op_move rfl rfl ?_)
  refine wOps_nil ?_
  refine mwp_block ?_
  refine mwp_loopK (α := Nat) [(0, _), (2, _), (7, _), (8, _)] (fun i => [(9, .int .i64 (i : Int))]) (fun i => [.cells [.bool false]]) (fun i => i ≤ l.length ∧ (l.take i).all isClockF = true) (fun i => l.length - i) (0) (.keep rfl (.keep rfl (.keep rfl (.keep rfl (.nil))))) (.keep rfl (.nil)) (⟨by omega, rfl⟩) (rfl) ?_
  rintro i ⟨hi, hall⟩
  refine mwp_seq ?_
  refine mwp_region rfl ?_
  refine wOps_op rfl (op_cmp rfl rfl rfl rfl ?_)
  refine wOps_nil ?_
  refine mwp_seq ?_
  refine mwp_cond_split rfl (fun h10 => ?_) (fun h10 => ?_)
  · -- yes
    have hlt : i < l.length := by simpa using h10
    obtain ⟨c, hs⟩ : ∃ q_, l[i]? = some q_ := ⟨_, List.getElem?_eq_getElem hlt⟩
    refine mwp_skip ?_
    refine mwp_seq ?_
    refine mwp_block ?_
    refine mwp_seq ?_
    refine mwp_region rfl ?_
    refine wOps_op rfl (op_indexAddr rfl Try.underlying27 sz40 (by decide) rfl rfl rfl (get_map hs) ?_)
    refine wOps_op rfl (op_load_sptr rfl rfl ta40 rfl ?_)
    refine wOps_op rfl (op_assign rfl rfl ?_)
    refine wOps_nil ?_
    refine mwp_seq ?_
    refine mwp_region rfl ?_
    refine wOps_op rfl (op_move rfl rfl ?_)
    refine wOps_op rfl (op_call rfl rfl rfl co40 ((clkIs_spec c _).mono ?_))
    rintro _ _ ⟨rfl, rfl⟩
    refine wOps_op rfl (op_not rfl rfl ?_)
    refine wOps_nil ?_
    refine mwp_cond_split rfl (fun h15 => ?_) (fun h15 => ?_)
    · -- yes
      refine mwp_seq ?_
      refine mwp_region rfl ?_
      refine wOps_op rfl (op_store' rfl rfl rfl rfl sz4 rfl rfl (Nat.le_of_ble_eq_true rfl) rfl ?_)
      refine wOps_nil ?_
      refine mwp_ret ?_
      exact ret_cell (.inr rfl) Try.results41 rfl rfl ta4 rfl (.refl _) (.bool _) ⟨by rw [isCauseF, List.all_eq_false.2 ⟨c, List.mem_of_getElem? hs, by simpa using h15⟩]; rfl, rfl⟩
    · -- no
      refine mwp_skip ?_
      refine mwp_region rfl ?_
      refine wOps_op rfl (op_arith rfl rfl rfl rfl ?_)
      refine wOps_op rfl (op_move rfl rfl ?_)
      refine wOps_nil ?_
      refine ⟨i + 1, by omega, ⟨by omega, ?_⟩, rfl, (.keep rfl (.keep rfl (.keep rfl (.keep rfl (.nil))))), (.eq rfl (int_succ hlt hlen) (.nil))⟩
      rw [List.take_add_one, hs, List.all_append, hall]
      simpa using h15
  · -- no
    have hge : i = l.length := by simp at h10; omega
    rw [hge, List.take_length] at hall
    have hcl := hall
    refine mwp_exit ?_
    refine mwp_seq ?_
    refine mwp_seq ?_
    refine mwp_region rfl ?_
    refine wOps_op rfl (op_move rfl rfl ?_)
    refine wOps_op rfl (op_call rfl rfl rfl co59 ((two_spec l _).mono ?_))
    rintro _ _ ⟨rfl, rfl⟩
    rw [List.append_assoc]
    refine wOps_nil ?_
    refine mwp_block ?_
    refine mwp_rangeB (ok := fun σ => σ.length = S.length + 3 ∧ σ[(S ++ [MObj.cells [.bool false]]).length]? = some (.cells [.lst none 1 (l.map encC)])) (ys := (twoY l).map encP) .ret (.inl rfl) (fun j => (match (twoY l)[j]? with | some p => pairF p.1 p.2 | none => true)) (fun j => ([.cells [.bool false], .cells [.lst none 1 (l.map encC)]] : MS)) (fun j => ([.cells [.bool false], .cells [.lst none 1 (l.map encC)]] : MS)) (fun j => rfl) (fun j => rfl) rfl (fun j o ho n hn => by simp at ho; rcases ho with rfl | rfl <;> intro x hx <;> (simp at hx; subst hx; first | exact .bool _ | exact cl_texts _ _ | exact cl_clocks _ _)) (fun j o ho n hn => by simp at ho; rcases ho with rfl | rfl <;> intro x hx <;> (simp at hx; subst hx; first | exact .bool _ | exact cl_texts _ _ | exact cl_clocks _ _)) rfl co68 rfl (by simp) ((two_iter l hlen _ _).weak fun σ h => h.1) (fun j => ⟨by simp, get_box⟩) (fun j s q => ⟨by simp, get_box⟩) rfl (fun y hy => by obtain ⟨i, _, rfl⟩ := List.mem_map.1 hy; rfl) ?_ ?_ ?_
    ·
      intro j y hy hbef L'
      rw [List.getElem?_map] at hy
      obtain ⟨⟨a, b⟩, hp, rfl⟩ := Option.map_eq_some_iff.1 hy
      rw [hp]
      obtain ⟨ha, hb⟩ := two_mem (List.mem_of_getElem? hp)
      have la := clock_len (List.all_eq_true.1 hcl a ha)
      have lb := clock_len (List.all_eq_true.1 hcl b hb)
      refine mwp_seq ?_
      refine mwp_region rfl ?_
      refine wOps_op rfl (op_assign rfl rfl ?_)
      refine wOps_nil ?_
      refine mwp_region rfl ?_
      refine wOps_op rfl (op_assign rfl rfl ?_)
      refine wOps_nil ?_
      refine ⟨rfl, [], by rw [List.append_nil], ?_⟩
      rw [List.append_nil]
      refine mwp_block ?_
      refine mwp_seq ?_
      refine mwp_region rfl ?_
      refine wOps_op rfl (op_move rfl rfl ?_)
      refine wOps_op rfl (op_move rfl rfl ?_)
      refine wOps_op rfl (op_call rfl rfl rfl co60 ((byTicks_spec a b _).mono ?_))
      rintro _ _ ⟨rfl, rfl⟩
      refine wOps_op rfl (op_cmp rfl rfl rfl rfl ?_)
      refine wOps_op rfl (op_move rfl rfl ?_)
      refine wOps_case (fun h25 => ?_) (fun h25 => ?_)
      ·
        refine wOps_skip rfl ?_
        refine wOps_skip rfl ?_
        refine wOps_skip rfl ?_
        refine wOps_skip rfl ?_
        refine wOps_op rfl (op_pick rfl rfl rfl ?_)
        refine wOps_nil ?_
        refine mwp_cond_t rfl (rfl) ?_
        refine mwp_seq ?_
        refine mwp_region rfl ?_
        refine wOps_op rfl (op_store_mid rfl rfl rfl rfl sz4 rfl rfl (Nat.le_of_ble_eq_true rfl) rfl ?_)
        refine wOps_nil ?_
        refine mwp_ret ?_
        exact .inr ⟨by simp only [pairF]; simp_all <;> (intros; omega), rfl, [], by rw [List.append_nil]; rfl⟩
      ·
        refine wOps_op rfl (op_move rfl rfl ?_)
        refine wOps_op rfl (op_move rfl rfl ?_)
        refine wOps_op rfl (op_call rfl rfl rfl co61 ((clkCmp_spec a b (by omega) _).mono ?_))
        rintro _ _ ⟨rfl, rfl⟩
        refine wOps_op rfl (op_cmp rfl rfl rfl rfl ?_)
        refine wOps_op rfl (op_pick rfl rfl rfl ?_)
        refine wOps_nil ?_
        refine mwp_cond_split rfl (fun h30 => ?_) (fun h30 => ?_)
        · -- yes
          refine mwp_seq ?_
          refine mwp_region rfl ?_
          refine wOps_op rfl (op_store_mid rfl rfl rfl rfl sz4 rfl rfl (Nat.le_of_ble_eq_true rfl) rfl ?_)
          refine wOps_nil ?_
          refine mwp_ret ?_
          exact .inr ⟨by simp only [pairF]; simp_all <;> (intros; omega), rfl, [], by rw [List.append_nil]; rfl⟩
        · -- no
          refine mwp_skip ?_
          exact .inl ⟨by simp only [pairF]; simp_all, rfl, [], by rw [List.append_nil]⟩
    ·
      intro hall2
      rw [List.append_assoc]
      have hr : isCauseF l = true := by
        rw [isCauseF, hcl, Bool.true_and, two_iff]
        intro p hp
        obtain ⟨j, hj, rfl⟩ := List.mem_iff_getElem.1 hp
        have := hall2 j (by rw [List.length_map]; exact hj)
        rw [List.getElem?_eq_getElem hj] at this
        exact this
      refine mwp_seq ?_
      refine mwp_region rfl ?_
      refine wOps_op rfl (op_store' rfl rfl rfl rfl sz4 rfl rfl (Nat.le_of_ble_eq_true rfl) rfl ?_)
      refine wOps_nil ?_
      refine mwp_ret ?_
      exact ret_cell (.inr rfl) Try.results41 rfl rfl ta4 rfl (.refl _) (.bool _) ⟨by rw [hr], rfl⟩
    ·
      intro j y hy hp
      rw [List.getElem?_map] at hy
      obtain ⟨⟨a, b⟩, hq, rfl⟩ := Option.map_eq_some_iff.1 hy
      rw [hq] at hp
      replace hp : pairF a b = false := hp
      have hr : isCauseF l = false := by
        rw [isCauseF, hcl, Bool.true_and]
        cases h : pairsF l with
        | false => rfl
        | true =>
          have : pairF a b = true := (two_iff l).1 h _ (List.mem_of_getElem? hq)
          rw [this] at hp
          cases hp
      rw [List.append_assoc]
      exact ret_cell (.inr rfl) Try.results41 rfl rfl ta4 rfl (.refl _) (.bool _) ⟨by rw [hr], rfl⟩
end Go.Proofs.Ytihpnfpdocnniaa
