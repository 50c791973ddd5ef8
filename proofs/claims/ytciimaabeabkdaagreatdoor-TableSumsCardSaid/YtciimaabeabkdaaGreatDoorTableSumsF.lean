/-
  Texts on which the proof of TableSums leans: part 6.
-/
import Derived.Test.YtciimaabeabkdaaGreatDoorTableSumsE
set_option linter.unusedVariables false
set_option linter.unusedSimpArgs false
set_option maxRecDepth 20000
set_option maxHeartbeats 8000000
namespace Go.Proofs.YtciimaabeabkdaaGreatDoor
open Go Go.MV
theorem tblNew_at (S L : MS) (k : Nat) (hk : L.length = k) : MCalls Tryz.prog 25 [.lst none 4 (tabs4.map encTb)] (S ++ L) fun v σ' => v = .ref (S.length + (k + 1)) 0 ∧ σ' = S ++ (L ++ [.mp 0 [], tbO0 tabs4 (S.length + k)]) := by
 have h := tblNew_spec (S ++ L) tabs4 (by decide) right4
 rw [zF, hk] at h
 refine h.mono ?_
 rintro _ _ ⟨rfl, rfl⟩
 exact ⟨by rw [Nat.add_assoc], by rw [zN]⟩
def wAt (a : List Bs) (i : Nat) : Option (List Bs) := (a.take i).foldl stepW none
theorem wAt_step {a : List Bs} {i : Nat} {x : Bs} (h : a[i]? = some x) : wAt a (i + 1) = stepW (wAt a i) x := by
 unfold wAt
 rw [List.take_add_one, h, Option.toList_some, List.foldl_append]
 rfl
theorem wAt_good (a : List Bs) : ∀ i, i ≤ 30 → goodW i (wAt a i)
 | 0, _ => good_none 0
 | i + 1, h => by
  have ih := wAt_good a i (by omega)
  cases hx : a[i]? with
  | some x => rw [wAt_step hx]; exact good_step x ih (by omega)
  | none =>
   have : wAt a (i + 1) = wAt a i := by
    unfold wAt
    rw [List.take_add_one, hx]
    simp
   rw [this]
   exact ⟨ih.1, by have := ih.2.1; omega, ih.2.2⟩
theorem w_eq {n m : Nat} {w u : Option (List Bs)} (h : goodW n w) (k : goodW m u) (e : w.getD [] = u.getD []) : w = u := by
 cases w <;> cases u
 ·rfl
 ·exact absurd (congrArg some e.symm) k.2.2
 ·exact absurd (congrArg some e) h.2.2
 ·exact congrArg some e
def keysW : Option (List Bs) → List Ety
 | none => []
 | some A => [(kS1, setV A)]
def tbV (mid : Nat) (w : Option (List Bs)) : MObj := tbO tabs4 ((keysW w).map Prod.fst) mid
theorem keys_len {n : Nat} {w : Option (List Bs)} (h : goodW n w) : (keysW w).length = min 1 (w.getD []).length := by
 cases w with
 | none => rfl
 | some A =>
  cases A with
  | nil => exact absurd rfl h.2.2
  | cons x A => simp [keysW]
noncomputable def sumW : Option (List Bs) → Int
 | none => 0
 | some A => sumV tabs4 kS1 (setV A)
theorem getW_spec (S : MS) (tid mid n : Nat) (w : Option (List Bs)) (hS : S[tid]? = some (tbW mid w)) (hm : S[mid]? = some (mpW w)) : MCalls Tryz.prog 27 [.ref tid 0, .str (bs kS1)] S fun v σ' => v = encV (setV (w.getD [])) ∧ σ' = S := by
 have h := fun kx hx => tblGet_spec S tid mid _ _ tabs4 kx kS1 (w.map setV) hx hm (look_W w)
 rw [get_W] at h
 cases w with
 | none => exact h _ hS
 | some A => exact h _ hS
theorem fit_tW {n : Nat} {A : List Bs} (h : goodW n (some A)) : fitT tabs4 kS1 (setV A) := ⟨tS, find_s1, by decide, ⟨(is_set _).trans h.1, ok_set _⟩, by have := sz_set h.1; simp at this; omega⟩
theorem sumW_spec (S : MS) (tid mid n : Nat) (w : Option (List Bs)) (hg : goodW n w) (hS : S[tid]? = some (tbV mid w)) (hm : S[mid]? = some (mpW w)) : MCalls Tryz.prog 32 [.ref tid 0, .str (bs kS1)] S fun v σ' => v = .int .u64 (sumW w) ∧ σ' = S := by
 cases w with
 | none => exact tblSum0_spec S tid mid _ _ tabs4 _ kS1 hS hm rfl
 | some A => exact tblSum_spec S tid mid _ _ tabs4 _ kS1 hS hm (setV A) (look_W (some A)) (fit_tW hg)
theorem sumsW_spec (S : MS) (tid mid n : Nat) (w : Option (List Bs)) (hg : goodW n w) (hS : S[tid]? = some (tbV mid w)) (hm : S[mid]? = some (mpW w)) : MCalls Tryz.prog 33 [.ref tid 0] S fun v σ' => v = .lst none 2 ((keysW w).map (encSm tabs4)) ∧ σ' = S := by
 refine tableSums_spec S tid mid _ _ tabs4 (keysW w) ?_ ?_ ?_ hS hm
 ·cases w <;> simp [keysW]
 ·intro e he
  cases w with
  | none => cases he
  | some A =>
   simp [keysW] at he
   subst he
   exact look_W (some A)
 ·intro e he
  cases w with
  | none => cases he
  | some A =>
   simp [keysW] at he
   subst he
   exact fit_tW hg
theorem tb_sub (mid : Nat) (w : Option (List Bs)) : ∃ l l', tbW mid w = .cells l ∧ tbV mid w = .cells l' ∧ Subs l l' := by
 cases w with
 | none => exact ⟨_, _, rfl, rfl, .cons (.refl _) (.cons (.nil 1) (.cons (.refl _) .nil))⟩
 | some A => exact ⟨_, _, rfl, rfl, .refl _⟩
theorem seen_take {A B : List Bs} {i : Nat} {x y : Bs} (hx : A[i]? = some x) (hy : B[i]? = some y) : decide (A.take (i + 1) = B.take (i + 1)) = (decide (A.take i = B.take i) && decide (x = y)) := by
 rw [List.take_add_one, List.take_add_one, hx, hy, Option.toList_some, Option.toList_some, zW]
 have h1 : i < A.length := (zD.1 hx).1
 have h2 : i < B.length := (zD.1 hy).1
 simp only [decide_eq_true_eq, Bool.and_eq_true]
 constructor
 ·intro h
  have := List.append_inj h (by rw [List.length_take, List.length_take]; omega)
  exact ⟨this.1, by simpa using this.2⟩
 ·rintro ⟨h, rfl⟩
  rw [h]
theorem same_end {A B : List Bs} {i : Nat} (h : i = A.length ∨ (decide (A.length = B.length) && decide (A.take i = B.take i)) = false) : MV.bool (decide (A.length = B.length) && decide (A.take i = B.take i)) = .bool (decide (A = B)) := by
 congr 1
 rw [zW]
 rcases h with rfl | h
 ·simp only [Bool.and_eq_true, decide_eq_true_eq, List.take_length]
  constructor
  ·rintro ⟨h1, h2⟩
   rw [h1, List.take_length] at h2
   exact h2
  ·rintro rfl
   exact ⟨rfl, by rw [List.take_length]⟩
 ·rw [h]
  simp only [Bool.false_eq_true, decide_eq_true_eq, false_iff]
  rintro rfl
  simp at h
theorem same_step {A B : List Bs} {i : Nat} {x y : Bs} (h : (decide (A.length = B.length) && decide (A.take i = B.take i)) = true) (hs : A[i]? = some x) (hs2 : B[i]? = some y) : MV.bool (x == y) = .bool (decide (A.length = B.length) && decide (A.take (i + 1) = B.take (i + 1))) := by
 rw [Bool.and_eq_true] at h
 rw [seen_take hs hs2, h.1, h.2, Bool.true_and, Bool.true_and]
 congr 1
 rw [zW]
 simp
theorem len_eq (A B : List Bs) : intCmp .eql ((A.map encX).length : Int) ((B.map encX).length : Int) = some (decide (A.length = B.length)) := by
 rw [zE, zE]
 show some ((A.length : Int) == (B.length : Int)) = _
 congr 1
 rw [zW]
 simp
 omega
theorem w_none {n : Nat} {w : Option (List Bs)} (h : goodW n w) (e : w.getD [] = []) : w = none := by
 cases w with
 | none => rfl
 | some A => exact absurd (congrArg some e) h.2.2
theorem keys_min {n : Nat} {w : Option (List Bs)} {A : List Bs} (h : goodW n w) (e : w.getD [] = A) : intCmp .eql (((keysW w).map (encSm tabs4)).length : Int) (if ((A.map encX).length : Int) < 1 then ((A.map encX).length : Int) else 1) = some true := by
 have := keys_len h
 rw [e] at this
 rw [zE, zE, this]
 show some (_ == _) = _
 congr 1
 rw [beq_iff_eq]
 split <;> omega
theorem TableSums_spec (a b : List Bs) (S : MS) : MCalls Tryz.prog 7 [.lst none 1 (a.map encX), .lst none 1 (b.map encX)] S fun v σ' => v = .bool true ∧ σ' = S := by
 refine zP Tryz.func7 V Tryz.ntmps7 (zA V) ?_
 refine zP3 (t := 0) V fun hlen => ?_
 rw [zE] at hlen
 refine zP3 (t := 1) V fun hlenb => ?_
 rw [zE] at hlenb
 refine zB <| qR V <| qA V V V <| qN <| zB <| zB <| qR V ?_
 refine qX V V V V co19 (known13_spec _) ?_
 refine qO V <| zZ0 V V <| qN <| zJ V (V) <| zS <| zB <| zB <| qR V <| qM V V V <| qE V V zU V <| qC V V V V V <| qM V V V ?_
 refine zO0 (fun h18 => ?_) (fun h18 => ?_)
 ·
  refine qS V <| qS V <| qS V <| qP V V V V <| qN <| zR V (V) <| zB <| qR V <| qA V V V <| qN <| zL ?_
  exact zX (.inr V) Tryz.results7 V (.of_eq (V)) (.bool _) Vv
 ·
  refine qM V V V <| qE V V zU V <| qC V V V V V <| qP V V V V <| qN ?_
  refine zM V (fun h22 => ?_) (fun h22 => ?_)
  ·
   refine zB <| qR V <| qA V V V <| qN <| zL ?_
   exact zX (.inr V) Tryz.results7 V (.of_eq (V)) (.bool _) Vv
  ·
   have hl15 : a.length ≤ 15 ∧ b.length ≤ 15 := by
    rw [zE] at h18 h22
    simp at h18 h22
    omega
   refine zS <| zB <| qR V ?_
   refine qX V V V V co26 (zZ3 _) ?_
   refine qX V V V V co25 (tblNew_at S [] 0 V) ?_
   refine qX V V V V co26 (zZ3 _) ?_
   refine qX V V V V co25 (tblNew_at S [mpW (none), tbW (S.length) (none)] 2 V) ?_
   refine qA V V V <| qA V V V <| qN <| zB <| zB <| qR V <| qA V V V <| qN <| zY ?_
   refine zA2 (α := Nat) [(0, _), (1, _), (5, _), (6, _)] (fun i => [(7, .int .i64 (i : Int))]) (fun i => [mpW (wAt a i), tbW (S.length) (wAt a i), mpW (none), tbW (S.length + 2) (none)]) (fun i => i ≤ a.length) (fun i => a.length - i) (0) (.keep V (.keep V (.keep V (.keep V (.nil))))) (.keep V (.nil)) (by omega) (V) ?_
   rintro i hi
   refine zB <| zB <| qR V <| qM V V V <| qM V V V <| qE V V zU V <| qC V V V V V <| qN ?_
   refine zM V (fun h30 => ?_) (fun h30 => ?_)
   ·
    rw [zE] at h30
    have hlt : i < a.length := by simpa using h30
    obtain ⟨x, hs⟩ : ∃ q_, a[i]? = some q_ := ⟨_, zC hlt⟩
    refine zS <| zB <| zY <| qR V <| qM V V V <| qM V V V <| qM V V V <| qO V <| zH V zU sz9 (by decide) V V V (zG1 hs) ?_
    refine qO V <| zK V V ta9 V <| qO V <| zD1 V zU el9 V V (by decide) (by decide) V V ?_
    refine qO V <| zS2 (y := encV (setV [x])) (zK1 V zF1 zm27 (.cons zF2 sz23 V V (zA V) .nil) (by kernel_rfl) Vv) (.agg (.cons (.refl _) (.cons (.refl _) (.cons (.view _ _ _) (.cons (.nil 1) (.cons (.nil 5) .nil)))))) ?_
    refine qX V V V V co28 (putW_spec _ (S.length + 1) S.length (wAt a i) x i (by omega) (by omega) (wAt_good a i (by omega)) (by rw [getElem?_own]; rfl) own_at0) ?_
    refine wOps_to (S ++ [mpW (stepW (wAt a i) x), tbW (S.length) (stepW (wAt a i) x), mpW (none), tbW (S.length + 2) (none)]) (by rw [zU4]; exact own_set0) ?_
    refine qN <| qR V <| qM V V V <| qO V <| zY0 V V V V <| qA V V V <| qN ?_
    refine ⟨i + 1, by omega, by omega, by rw [wAt_step hs], (.keep V (.keep V (.keep V (.keep V (.nil))))), (.eq V (zX1 hlt (by simp only [maxLen]; omega)) (.nil))⟩
   ·
    rw [zE] at h30
    have hge : i = a.length := by simp at h30; omega
    subst hge
    refine zP1 <| zB <| zB <| qR V <| qA V V V <| qN <| zY ?_
    refine zA2 (α := Nat) [(1, _), (5, _), (6, _)] (fun i => [(8, .int .i64 (i : Int))]) (fun i => [mpW (wAt a a.length), tbW (S.length) (wAt a a.length), mpW (wAt b i), tbW (S.length + 2) (wAt b i)]) (fun i => i ≤ b.length) (fun i => b.length - i) (0) (.keep V (.keep V (.keep V (.nil)))) (.keep V (.nil)) (by omega) (V) ?_
    rintro i hi
    refine zB <| zB <| qR V <| qM V V V <| qM V V V <| qE V V zU V <| qC V V V V V <| qN ?_
    refine zM V (fun h44 => ?_) (fun h44 => ?_)
    ·
     rw [zE] at h44
     have hlt : i < b.length := by simpa using h44
     obtain ⟨x, hs⟩ : ∃ q_, b[i]? = some q_ := ⟨_, zC hlt⟩
     refine zS <| zB <| zY <| qR V <| qM V V V <| qM V V V <| qM V V V <| qO V <| zH V zU sz9 (by decide) V V V (zG1 hs) ?_
     refine qO V <| zK V V ta9 V <| qO V <| zD1 V zU el9 V V (by decide) (by decide) V V ?_
     refine qO V <| zS2 (y := encV (setV [x])) (zK1 V zF1 zm27 (.cons zF2 sz23 V V (zA V) .nil) (by kernel_rfl) Vv) (.agg (.cons (.refl _) (.cons (.refl _) (.cons (.view _ _ _) (.cons (.nil 1) (.cons (.nil 5) .nil)))))) ?_
     refine qX V V V V co28 (putW_spec _ (S.length + 3) (S.length + 2) (wAt b i) x i (by omega) (by omega) (wAt_good b i (by omega)) (by rw [getElem?_own]; rfl) (by rw [getElem?_own]; rfl)) ?_
     refine wOps_to (S ++ [mpW (wAt a a.length), tbW (S.length) (wAt a a.length), mpW (stepW (wAt b i) x), tbW (S.length + 2) (stepW (wAt b i) x)]) (by rw [zU4, zU4]; rfl) ?_
     refine qN <| qR V <| qM V V V <| qO V <| zY0 V V V V <| qA V V V <| qN ?_
     refine ⟨i + 1, by omega, by omega, by rw [wAt_step hs], (.keep V (.keep V (.keep V (.nil)))), (.eq V (zX1 hlt (by simp only [maxLen]; omega)) (.nil))⟩
    ·
     rw [zE] at h44
     have hge : i = b.length := by simp at h44; omega
     subst hge
     refine zP1 <| zB ?_
     have hwa := wAt_good a a.length (by omega)
     have hwb := wAt_good b b.length (by omega)
     have hgA := fun T h1 h2 => getW_spec T (S.length + 1) S.length 0 (wAt a a.length) h1 h2
     have hgB := fun T h1 h2 => getW_spec T (S.length + 3) (S.length + 2) 0 (wAt b b.length) h1 h2
     obtain ⟨A, hA⟩ : ∃ A, (wAt a a.length).getD [] = A := ⟨_, rfl⟩
     obtain ⟨B, hB⟩ : ∃ B, (wAt b b.length).getD [] = B := ⟨_, rfl⟩
     rw [hA] at hgA
     rw [hB] at hgB
     have hAl : A.length ≤ 15 := by have := hwa.2.1; rw [hA] at this; omega
     have hBl : B.length ≤ 15 := by have := hwb.2.1; rw [hB] at this; omega
     refine qR V <| qM V V V ?_
     refine qX V V V V co27 (hgA _ (by rw [getElem?_own]; rfl) own_at0) ?_
     refine qM V V V ?_
     refine qX V V V V co27 (hgB _ (by rw [getElem?_own]; rfl) (by rw [getElem?_own]; rfl)) ?_
     refine qO V <| zL0 V zm27 V V <| qO V <| zL0 V zm27 V V <| qO V <| zC0 V V V V sz27 V V (zA V) V <| qO V <| zC0 V V V V sz27 V V (zA V) V <| qN <| zB <| qR V <| qF V V V zF2 <| qL V V V V ta23 V <| qE V V zU V <| qF V V V zF2 <| qL V V V V ta23 V <| qE V V zU V <| qC V V V V (len_eq A B) <| qA V V V <| qN ?_
     refine mwp_joinX (E := [(5, .ref (S.length + 1) 0), (6, .ref (S.length + 3) 0), (9, .ref (S.length + 4) 0), (10, .ref (S.length + 5) 0), (11, .bool (decide (A = B)))]) (S ++ [mpW (wAt a a.length), tbW (S.length) (wAt a a.length), mpW (wAt b b.length), tbW (S.length + 2) (wAt b b.length), .cells (encV (setV A)).cells, .cells (encV (setV B)).cells]) (True) ?_ ?_
     ·
      refine zB <| qR V <| qA V V V <| qN <| zY ?_
      refine zA2 (α := Nat) [(5, _), (6, _), (9, _), (10, _)] (fun i => [(11, .bool (decide (A.length = B.length) && decide (A.take i = B.take i))), (12, .int .i64 (i : Int))]) (fun i => [mpW (wAt a a.length), tbW (S.length) (wAt a a.length), mpW (wAt b b.length), tbW (S.length + 2) (wAt b b.length), .cells (encV (setV A)).cells, .cells (encV (setV B)).cells]) (fun i => i ≤ A.length) (fun i => A.length - i) (0) (.keep V (.keep V (.keep V (.keep V (.nil))))) (.eq V (by simp) (.keep V (.nil))) (by omega) (V) ?_
      rintro i hi
      refine zB <| zB <| qR V <| qM V V V <| qF V V V zF2 <| qL V V V V ta23 V <| qE V V zU V <| qC V V V V V <| qM V V V ?_
      refine zO0 (fun h71 => ?_) (fun h71 => ?_)
      ·
       rw [zE] at h71
       have hlt : i < A.length := by simpa using h71
       obtain ⟨x, hs⟩ : ∃ q_, A[i]? = some q_ := ⟨_, zC hlt⟩
       refine qM V V V <| qP V V V V <| qN ?_
       refine zM V (fun h73 => ?_) (fun h73 => ?_)
       ·
        have hll : A.length = B.length := by rw [Bool.and_eq_true] at h73; simpa using h73.1
        obtain ⟨y, hs2⟩ : ∃ q_, B[i]? = some q_ := ⟨_, zC (by omega)⟩
        refine zS <| zB <| zY ?_
        refine zT0 [] [_] mo (by decide) V V V V ?_
        refine dO V V V (zG V V zF2 Vv) <| dO V V V (zK0 V V V ta23 V Vv) <| dO V V V (zD0 V V Vv) <| dO V V V (zH V zU sz9 (by decide) V V V (zG1 hs) Vv) ?_
        refine dO V V V (zK V V ta9 V Vv) <| dO V V V (zG V V zF2 Vv) <| dO V V V (zK0 V V V ta23 V Vv) <| dO V V V (zD0 V V Vv) <| dO V V V (zH V zU sz9 (by decide) V V V (zG1 hs2) Vv) ?_
        refine dO V V V (zK V V ta9 V Vv) <| dO V V V (zQ2 V V V V Vv) <| dO V V V (zA1 V V Vv) <| zP0 <| qR V <| qM V V V <| qO V <| zY0 V V V V <| qA V V V <| qN ?_
        refine ⟨i + 1, by omega, by omega, rfl, (.keep V (.keep V (.keep V (.keep V (.nil))))), (.eq V (same_step h73 hs hs2) (.eq V (zX1 hlt (by simp only [maxLen]; omega)) (.nil)))⟩
       ·
        refine zP1 ?_
        exact .inl ⟨rfl, rfl, .keep rfl (.keep rfl (.keep rfl (.keep rfl (.eq rfl (same_end (by first | exact .inl hge | exact .inr h73)) .nil)))), trivial⟩
      ·
       rw [zE] at h71
       have hge : i = A.length := by simp at h71; omega
       refine qS V <| qP V V V V <| qN <| zJ V (V) <| zP1 ?_
       exact .inl ⟨rfl, rfl, .keep rfl (.keep rfl (.keep rfl (.keep rfl (.eq rfl (same_end (by first | exact .inl hge | exact .inr h73)) .nil)))), trivial⟩
     ·
      intro _
      refine zB <| zB ?_
      obtain ⟨l1, l1p, e1, e1p, hs1⟩ := tb_sub S.length (wAt a a.length)
      obtain ⟨l2, l2p, e2, e2p, hs2⟩ := tb_sub (S.length + 2) (wAt b b.length)
      refine mwp_cellsub 1 (l := l1) (l' := l1p) (L' := [mpW (wAt a a.length), tbV (S.length) (wAt a a.length), mpW (wAt b b.length), tbW (S.length + 2) (wAt b b.length), .cells (encV (setV A)).cells, .cells (encV (setV B)).cells]) (congrArg some e1) hs1 (by rw [e1p]; rfl) ?_
      refine mwp_cellsub 3 (l := l2) (l' := l2p) (L' := [mpW (wAt a a.length), tbV (S.length) (wAt a a.length), mpW (wAt b b.length), tbV (S.length + 2) (wAt b b.length), .cells (encV (setV A)).cells, .cells (encV (setV B)).cells]) (congrArg some e2) hs2 (by rw [e2p]; rfl) ?_
      refine qR V <| qM V V V <| qN ?_
      refine zM V (fun h87 => ?_) (fun h87 => ?_)
      ·
       have hAB : A = B := by simpa using h87
       have hw : wAt a a.length = wAt b b.length := w_eq hwa hwb (by rw [hA, hB]; exact hAB)
       refine zB <| qR V <| qM V V V ?_
       refine qX V V V V co32 (sumW_spec _ (S.length + 1) S.length _ _ hwa (by rw [getElem?_own]; rfl) own_at0) ?_
       refine qM V V V ?_
       refine qX V V V V co32 (sumW_spec _ (S.length + 3) (S.length + 2) _ _ hwb (by rw [getElem?_own]; rfl) (by rw [getElem?_own]; rfl)) ?_
       refine qC V V V V (show _ = some true by rw [hw]; exact congrArg some (beq_self_eq_true _)) ?_
       refine qM V V V <| qF V V V zF2 <| qL V V V V ta23 V <| qE V V zU V <| qC V V V V V <| qM V V V ?_
       refine zO0 (fun h98 => ?_) (fun h98 => ?_)
       ·
        refine qS V <| qS V <| qS V <| qP V V V V <| qP V V V V <| qA V V V <| qN <| zL ?_
        exact zX (.inr V) Tryz.results7 V (.of_eq (V)) (.bool _) Vv
       ·
        have hA0 : A = [] := by
         rw [zE] at h98
         simp at h98
         exact h98
        have hwn : wAt a a.length = none := w_none hwa (by rw [hA]; exact hA0)
        refine qM V V V ?_
        refine qX V V V V co32 (sumW_spec _ (S.length + 1) S.length _ _ hwa (by rw [getElem?_own]; rfl) own_at0) ?_
        refine qC V V V V (show _ = some true by rw [hwn]; rfl) ?_
        refine qP V V V V <| qP V V V V <| qA V V V <| qN <| zL ?_
        exact zX (.inr V) Tryz.results7 V (.of_eq (V)) (.bool _) Vv
      ·
       refine zS <| zB ?_
       refine zT0 [] [_] mo (by decide) V V V V ?_
       refine dO V V V (zD0 V V Vv) ?_
       refine zQ V V (.cons (zI1 V V V co33 (sumsW_spec _ (S.length + 1) S.length _ _ hwa (by rw [getElem?_own]; rfl) own_at0)) .nil) ?_
       refine dO V V V (zN1 V Tryz.underlying29 V Vv) <| dO V V V (zG V V zF2 Vv) <| dO V V V (zK0 V V V ta23 V Vv) <| dO V V V (zN1 V zU V Vv) <| dO V V V (op_min2 V V V Vv) <| dO V V V (zG2 V V V (keys_min hwa hA) Vv) <| dO V V V (zD0 V V Vv) <| dO V V V (zD0 V V Vv) ?_
       refine zQ V V (.cons (zI1 V V V co33 (sumsW_spec _ (S.length + 3) (S.length + 2) _ _ hwb (by rw [getElem?_own]; rfl) (by rw [getElem?_own]; rfl))) .nil) ?_
       refine dO V V V (zN1 V Tryz.underlying29 V Vv) <| dO V V V (zG V V zF2 Vv) <| dO V V V (zK0 V V V ta23 V Vv) <| dO V V V (zN1 V zU V Vv) <| dO V V V (op_min2 V V V Vv) <| dO V V V (zG2 V V V (keys_min hwb hB) Vv) <| dO V V V (zL1 V V V Vv) <| dO V V V (zA1 V V Vv) <| zP0 <| zL ?_
       exact zX (.inr V) Tryz.results7 V (.of_eq (V)) (.bool _) Vv
theorem cells_str : Tryz.prog.cellsOf 9 = 1 := by kernel_rfl
def TxtOk (s : Bs) : Prop := s.length ≤ maxLen
theorem el_txt (m : Nat) (x : MV) (_ : x.cells.length = Tryz.prog.cellsOf 9) (h : TyM Tryz.prog m 9 x.cells) (he : ElF Tryz.prog 9 x) : ∃ a : Bs, x = .str (bs a) ∧ TxtOk a := by
 obtain ⟨a, h1, h2⟩ := el_str zB1 m x h he
 exact ⟨a, h1, h2⟩
theorem arg_texts {ts : List TypeId} (hok : okTypes Tryz.prog ts = true) (ht : 23 ∈ ts) {H : Type} {enc : TypeId × Value → H} {W : World} {base b0 : Nat} {spare : Nat → Bool} {held : Bool} {r : Reach} {v : Value} {d : DataW H} {p : List MemPlace} (hv : Value.okWide Tryz.prog W r b0 23 v) (h : DataW.Trod enc Tryz.prog W base spare held 23 v d p) :
  ∃ c : List Bs, Rd (g0 W) W (.lst none 1 (c.map fun s => .str (bs s))) v ∧ (∀ s ∈ c, TxtOk s) ∧ c.length ≤ maxLen := by
 obtain ⟨c, h1, h2, h3⟩ := arg_slice (en := fun s : Bs => .str (bs s)) hok ht zU (q := TxtOk) el_txt hv h
 rw [cells_str] at h1
 exact ⟨c, h1, h2, h3⟩
end Go.Proofs.YtciimaabeabkdaaGreatDoor
