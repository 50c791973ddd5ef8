/-
  Texts on which the proof of PartsVersions leans: part 6.
-/
import Derived.Test.YtnfcnpdpfgcchaaGreatPartsVersionsE
section
set_option linter.unusedVariables false
set_option linter.unusedSimpArgs false
set_option maxRecDepth 20000
set_option maxHeartbeats 400000
namespace Go.Proofs.YtnfcnpdpfgcchaaGreat
open Go Go.MV
theorem cl_mono {o : MObj} {a b : Nat} (h : o.cl a) (hab : a ≤ b) : o.cl b := by
 cases o with
 | cells l => exact fun x hx => (h x hx).mono hab
 | loop s p ls => exact fun t x hx => (h t x hx).mono hab
 | row _ _ _ => exact trivial
 | mp es => exact fun e he => (h e he).mono hab
 | pin _ _ => exact trivial
 | tcells _ l => exact fun x hx => (h x hx).mono hab
 | orow _ _ _ l => exact fun x hx => (h x hx).mono hab
 | fixed _ _ => exact trivial
 | gone => exact trivial
theorem cls_mem {A : MS} (h : ClS A) {o : MObj} (ho : o ∈ A) {n : Nat} (hn : A.length ≤ n) : o.cl n := by
 obtain ⟨i, hi⟩ := List.getElem?_of_mem ho
 exact cl_mono (h i o hi) hn
theorem cls_two {A A' L : MS} (hl : A'.length = A.length) (h : ClS (A ++ L)) (h' : ClS A') {o : MObj} (ho : o ∈ A' ++ L) {n : Nat} (hn : (([] : MS) ++ (A ++ L)).length ≤ n) : o.cl n :=
 cls_mem (ClS.swap hl h h') ho (by simp [hl] at hn ⊢; omega)
theorem get_rtN {A A' L0 L' : MS} {x y c : MObj} (hl : A'.length = A.length) : (A' ++ (L0 ++ ((y :: L') ++ [c])))[((([] : MS) ++ (A ++ L0)) ++ x :: L').length]? = some c := by
 have e : A' ++ (L0 ++ ((y :: L') ++ [c])) = ((A' ++ L0) ++ y :: L') ++ [c] := by simp
 have e2 : ((([] : MS) ++ (A ++ L0)) ++ x :: L').length = ((A' ++ L0) ++ y :: L').length := by simp [hl]
 rw [e, e2]
 exact get_mid
theorem flat4 {A L0 L' : MS} {x c : MObj} : ((([] : MS) ++ (A ++ L0)) ++ x :: L') ++ [c] = A ++ (L0 ++ ((x :: L') ++ [c])) := by simp
theorem look2 {A A' L R : MS} {k : Nat} {o : MObj} (hl : A'.length = A.length) (h : L[k]? = some o) : (A' ++ (L ++ R))[A.length + k]? = some o := by
 rw [own_get hl]
 exact get_app h
abbrev okP (l0 : Nat) (F : List (Nat × MObj)) (σ : MS) : Prop := (σ.length = l0 ∧ Sees F σ) ∧ ClS σ
theorem each_at (s : Sch) (v : Val) {S L : MS} {k : Nat} (hL : L.length = k) : MCalls Tryz.prog 25 [encS s, encV v] (S ++ L) fun r σ' => r = .fn (.func 45) [] [.ref (S.length + k) 0, .ref (S.length + (k + 1)) 0] ∧ σ' = S ++ (L ++ [.cells (encS s).cells, .cells (encV v).cells]) := by
 refine (each_spec s v (S ++ L)).mono ?_
 rintro r σ' ⟨rfl, rfl⟩
 rw [List.length_append, hL, List.append_assoc]
 exact ⟨rfl, rfl⟩
def EachOk (s : Sch) (v : Val) (ys : List Val) : Prop := ∀ i1 i2, VIter 45 [.ref i1 0, .ref i2 0] ys [(i1, .cells (encS s).cells), (i2, .cells (encV v).cells)]
theorem within_give (s : Sch) (v : Val) (ys : List Val) (g : Val → Val) (ka : FuncId) (caps : List MV) (F : List (Nat × MObj)) (hco : CallOk Tryz.prog ka) (hit : EachOk s v ys) (hal : ∀ (p : Val) (S' : MS), Sees F S' → MCalls Tryz.prog ka ([] ++ [encV p] ++ caps) S' fun r σ' => r = encV (g p) ∧ σ' = S') (l0 : Nat) :
  GiveOk Tryz.prog 48 (fun id => [encS s, encV v, .fn (.func ka) [] caps, .yld id]) .bool (ys.map fun p => [encV (g p)]) (okP l0 F) := by
 intro id T m hok hm hyt hyf
 obtain ⟨k0, ins⟩ := s
 obtain ⟨n0, m0, s0, c0, w0⟩ := v
 have hT : ∀ j, (T j).length = l0 := fun j => (hok j).1.1
 have hT_ : ∀ j, (T j).length = (T 0).length := fun j => (hT j).trans (hT 0).symm
 refine mcalls_body Tryz.func48 rfl Tryz.ntmps48 (Nat.le_of_ble_eq_true rfl) ?_
 refine mwp_seq <| qR rfl <| qB rfl rfl rfl rfl rfl <| qB rfl rfl rfl rfl rfl <| qB rfl rfl rfl rfl rfl <| qB rfl rfl rfl rfl rfl <| qO rfl <| op_alloc' rfl zm4 rfl rfl <| qN <| mwp_seq <| mwp_seq <| qR rfl <| qL rfl rfl rfl rfl ta24 rfl <| qL rfl rfl rfl rfl ta30 rfl ?_
 refine wOps_op rfl (op_call rfl rfl rfl co25 ((each_at (.mk k0 ins) (.mk n0 m0 s0 c0 w0) rfl).mono ?_))
 rintro _ _ ⟨rfl, rfl⟩
 refine qN <| mwp_block ?_
 have hsee : ∀ (j : Nat) (X : MS), Sees [((T 0).length + 5, .cells (encS (.mk k0 ins)).cells), ((T 0).length + 6, .cells (encV (.mk n0 m0 s0 c0 w0)).cells)] ((([] : MS) ++ (T j ++ [.cells (encS (.mk k0 ins)).cells, .cells (encV (.mk n0 m0 s0 c0 w0)).cells, .cells [.fn (.func ka) [] caps], .cells [.yld id], .cells [.bool false], .cells (encS (.mk k0 ins)).cells, .cells (encV (.mk n0 m0 s0 c0 w0)).cells])) ++ X) := fun j X => .cons (get_app (by rw [List.nil_append, own_get (hT_ j)]; rfl)) (.cons (get_app (by rw [List.nil_append, own_get (hT_ j)]; rfl)) .nil)
 show mwp _ _ _ _ _ _ _ (T 0 ++ [.cells (encS (.mk k0 ins)).cells, .cells (encV (.mk n0 m0 s0 c0 w0)).cells, .cells [.fn (.func ka) [] caps], .cells [.yld id], .cells [.bool false], .cells (encS (.mk k0 ins)).cells, .cells (encV (.mk n0 m0 s0 c0 w0)).cells])
 refine mwp_facts fun _ hclW => ?_
 generalize hL0 : ([.cells (encS (.mk k0 ins)).cells, .cells (encV (.mk n0 m0 s0 c0 w0)).cells, .cells [.fn (.func ka) [] caps], .cells [.yld id], .cells [.bool false], .cells (encS (.mk k0 ins)).cells, .cells (encV (.mk n0 m0 s0 c0 w0)).cells] : MS) = L0 at hclW hsee
 have hl8 : L0.length = 7 := by rw [← hL0]; rfl
 show mwp _ _ _ _ _ _ _ (([] : MS) ++ (T 0 ++ L0))
 refine mwp_rangeC (L0 := _) .ret (.inl rfl) (fun j => decide (j ≠ m)) (fun j => T j ++ L0) (fun j => T j ++ L0) (fun j => T (j + 1) ++ L0) (fun j => by simp [hT j, hT 0]) (fun j => by simp [hT j, hT 0]) (fun j => by simp [hT (j + 1), hT 0]) rfl
  (fun j o ho n hn => cls_two ((hT j).trans (hT 0).symm) hclW (hok j).2 ho hn) (fun j o ho n hn => cls_two ((hT j).trans (hT 0).symm) hclW (hok j).2 ho hn) (fun j o ho n hn => cls_two ((hT (j + 1)).trans (hT 0).symm) hclW (hok (j + 1)).2 ho hn) rfl co45 rfl (by simp) ((hit ((T 0).length + 5) ((T 0).length + 6) ((T 0).length + 8)).two)
  (fun j => ⟨by simp [hT j, hT 0, hl8], hsee j _⟩) (fun j hj => rfl) (fun j s q => ⟨by simp [hT (j + 1), hT 0, hl8], hsee (j + 1) _⟩) rfl (fun y hy => by obtain ⟨i, _, rfl⟩ := List.mem_map.1 hy; rfl) ?_ ?_ ?_
 ·
  intro j y hy hbef L'
  have hy0 := hy
  rw [List.getElem?_map] at hy
  obtain ⟨p, hp, rfl⟩ := Option.map_eq_some_iff.1 hy
  obtain ⟨n1, m1, s1, c1, w1⟩ := p
  have hjl := (List.getElem?_eq_some_iff.1 hp).1
  have hyg : (ys.map fun p => [encV (g p)])[j]? = some [encV (g (.mk n1 m1 s1 c1 w1))] := by rw [List.getElem?_map, hp]; rfl
  have hjm : j ≤ m := by
   rcases Nat.lt_or_ge m j with h | h
   ·have := hbef m h
    simp at this
   ·exact h
  refine qR rfl <| qO rfl <| op_alloc rfl zm30 <| qO rfl <| op_store_last rfl rfl rfl sz30 rfl rfl (Nat.le_of_ble_eq_true rfl) <| qN ?_
  refine ⟨rfl, [_], rfl, ?_⟩
  rw [flat4]
  have hpc := @get_rtN (T 0) (T j) L0 L'
  refine mwp_abs fun R hR => ?_
  refine mwp_block <| mwp_seq ?_
  rcases Nat.lt_or_eq_of_le hjm with hjlt | hjeq
  ·
   refine mwp_draw [4] [_, T (j + 1) ++ R] mo (by decide) rfl rfl rfl rfl ?_
   refine dOps_op rfl rfl (.cons (op_load_ref rfl rfl (by rw [hR]; exact look2 (hT_ _) (k := 3) (by rw [← hL0]; rfl)) ta75 rfl ⟨rfl, rfl⟩) .nil) ?_
   refine dOps_op rfl rfl (.cons (op_load_ref rfl rfl (by rw [hR]; exact look2 (hT_ _) (k := 2) (by rw [← hL0]; rfl)) ta84 rfl ⟨rfl, rfl⟩) (.cons (op_load_ref rfl rfl (by rw [hR]; exact look2 (hT_ _) (k := 2) (by rw [← hL0]; rfl)) ta84 rfl ⟨rfl, rfl⟩) (.nil))) ?_
   refine dOps_op rfl rfl (.cons (op_viewTo (y := encV (.mk n1 m1 s1 c1 w1)) (op_load_ref rfl rfl (by rw [hR]; exact get_rtN ((hT_ _).trans (hT_ _).symm)) ta30 rfl ⟨rfl, rfl⟩) (.refl _) ⟨rfl, rfl⟩) (.cons (op_viewTo (y := encV (.mk n1 m1 s1 c1 w1)) (op_load_ref rfl rfl (by rw [hR]; exact get_rtN ((hT_ _).trans (hT_ _).symm)) ta30 rfl ⟨rfl, rfl⟩) (.refl _) ⟨rfl, rfl⟩) (.nil))) ?_
   refine dOps_op rfl rfl (.cons (op_call rfl rfl rfl hco (hal _ _ (.app (hok j).1.2))) .nil) <| dOps_eff rfl rfl rfl rfl (hyt j _ hjlt hyg R _ _ _ _ _ _ rfl rfl rfl) <| dO rfl rfl rfl (op_not rfl rfl ⟨rfl, rfl⟩) <| dOps_nil <| mwp_cond_f rfl (rfl) <| mwp_skip ?_
   exact .inl ⟨decide_eq_true (by omega), rfl, [_], by rw [hR]; exact flat4.symm⟩
  ·
   refine mwp_draw [4] [_, T (j + 1) ++ R] mo (by decide) rfl rfl rfl rfl ?_
   refine dOps_op rfl rfl (.cons (op_load_ref rfl rfl (by rw [hR]; exact look2 (hT_ _) (k := 3) (by rw [← hL0]; rfl)) ta75 rfl ⟨rfl, rfl⟩) .nil) ?_
   refine dOps_op rfl rfl (.cons (op_load_ref rfl rfl (by rw [hR]; exact look2 (hT_ _) (k := 2) (by rw [← hL0]; rfl)) ta84 rfl ⟨rfl, rfl⟩) (.cons (op_load_ref rfl rfl (by rw [hR]; exact look2 (hT_ _) (k := 2) (by rw [← hL0]; rfl)) ta84 rfl ⟨rfl, rfl⟩) (.nil))) ?_
   refine dOps_op rfl rfl (.cons (op_viewTo (y := encV (.mk n1 m1 s1 c1 w1)) (op_load_ref rfl rfl (by rw [hR]; exact get_rtN ((hT_ _).trans (hT_ _).symm)) ta30 rfl ⟨rfl, rfl⟩) (.refl _) ⟨rfl, rfl⟩) (.cons (op_viewTo (y := encV (.mk n1 m1 s1 c1 w1)) (op_load_ref rfl rfl (by rw [hR]; exact get_rtN ((hT_ _).trans (hT_ _).symm)) ta30 rfl ⟨rfl, rfl⟩) (.refl _) ⟨rfl, rfl⟩) (.nil))) ?_
   refine dOps_op rfl rfl (.cons (op_call rfl rfl rfl hco (hal _ _ (.app (hok j).1.2))) .nil) <| dOps_eff rfl rfl rfl rfl (hyf j _ hjeq hyg R _ _ _ _ _ _ rfl rfl rfl) <| dO rfl rfl rfl (op_not rfl rfl ⟨rfl, rfl⟩) <| dOps_nil <| mwp_cond_t rfl (rfl) <| mwp_seq <| qR rfl <| qO rfl <| op_store (id := (T 0).length + 4) rfl rfl rfl (by rw [hR]; exact look2 (hT_ _) (k := 4) (by rw [← hL0]; rfl)) sz4 rfl rfl (Nat.le_of_ble_eq_true rfl) ?_
   have hss : (T (j + 1) ++ R).set ((T 0).length + 4) (.cells (setMany [.bool false] 0 (MV.bool false).cells)) = T (j + 1) ++ R := set_self_ (by rw [hR]; exact look2 (hT_ _) (k := 4) (by rw [← hL0]; rfl))
   rw [hss]
   refine qN <| mwp_ret ?_
   exact .inr ⟨decide_eq_false (by omega), rfl, [_], by rw [hR]; exact flat4.symm⟩
 ·
  intro hall
  have hmm : m = ys.length := by
   rcases Nat.lt_or_ge m ys.length with h | h
   ·have := hall m (by simpa using h)
    simp at this
   ·simp at hm; omega
  show BlockM _ _ _ _ ((T _ ++ L0) ++ [.gone])
  have e1 : (ys.map fun p => [encV p]).length = m := by rw [List.length_map]; exact hmm.symm
  have e2 : (ys.map fun p => [encV (g p)]).length = m := by rw [List.length_map]; exact hmm.symm
  rw [List.append_assoc (T _) L0, e1, e2]
  refine mwp_seq <| qR rfl <| qO rfl <| op_store (id := (T 0).length + 4) rfl rfl rfl (by exact look2 (hT_ _) (k := 4) (by rw [← hL0]; rfl)) sz4 rfl rfl (Nat.le_of_ble_eq_true rfl) ?_
  rw [own_set (hT_ _), ← hL0]
  refine qN <| mwp_ret ?_
  exact ret_cellK (S' := T m) (hT_ _) (.inr rfl) Tryz.results48 rfl rfl ta4 rfl (.refl _) (.bool _) (hok _).2 ⟨by simp, by simp⟩
 ·
  intro j y hy hp
  have hjm : j = m := by simpa using hp
  subst hjm
  have hlt := (List.getElem?_eq_some_iff.1 hy).1
  rw [List.length_map] at hlt
  show BodyQ _ _ _ _ _ _ ((T (j + 1) ++ L0) ++ [.gone])
  rw [List.append_assoc (T (j + 1)) L0, ← hL0]
  exact ret_cellK (S' := T (j + 1)) (hT_ _) (.inr rfl) Tryz.results48 rfl rfl ta4 rfl (.refl _) (.bool _) (hok _).2 ⟨by simp; omega, by simp [hlt]⟩
end Go.Proofs.YtnfcnpdpfgcchaaGreat
end
section
set_option linter.unusedVariables false
set_option linter.unusedSimpArgs false
set_option maxRecDepth 20000
set_option maxHeartbeats 400000
namespace Go.Proofs.YtnfcnpdpfgcchaaGreat
open Go Go.MV
theorem map_one {l : List Val} {j : Nat} {x : Val} (h : l[j]? = some x) : (l.map fun p => [encV p])[j]? = some [encV x] := by rw [List.getElem?_map, h]; rfl
theorem _root_.Go.MV.Sees.hd {i : Nat} {o : MObj} {F : List (Nat × MObj)} {A : MS} (h : Sees ((i, o) :: F) A) : A[i]? = some o := h (i, o) (List.mem_cons_self ..)
theorem _root_.Go.MV.Sees.tl {p : Nat × MObj} {F : List (Nat × MObj)} {A : MS} (h : Sees (p :: F) A) : Sees F A := fun q hq => h q (List.mem_cons_of_mem _ hq)
theorem leaves_other {k : Int} (h : k ≠ 3) {v : Val} : leavesF k v = [v] := by cases v; simp [leavesF, h]
theorem okP_app {l0 n : Nat} {F F' : List (Nat × MObj)} {A J : MS} (h : okP l0 F A) (hn : J.length = n) (hF : Sees F' (A ++ J)) (hJ : ∀ o ∈ J, o.cl (A ++ J).length) : okP (l0 + n) F' (A ++ J) := ⟨⟨by rw [List.length_append, h.1.1, hn], hF⟩, h.2.app hJ⟩
theorem cl_int1 (n : Nat) (k : IntKind) (i : Int) : (MObj.cells [.int k i]).cl n := fun x hx => by
 simp at hx
 subst hx
 exact .int _ _
theorem cl_boxS (n : Nat) (s : Sch) : (MObj.cells (encS s).cells).cl n := fun x hx => by
 have := cl_encS n s
 obtain ⟨k, ins⟩ := s
 cases this with
 | agg _ h => exact h x hx
theorem cl_boxV (n : Nat) (v : Val) : (MObj.cells (encV v).cells).cl n := fun x hx => by
 have := cl_encV n v
 obtain ⟨_, _, _, _, _⟩ := v
 cases this with
 | agg _ h => exact h x hx
theorem leaves3_give (ins : List Sch) (v : Val) (F : List (Nat × MObj)) (l0 : Nat) : GiveOk Tryz.prog 51 (fun id => [encS (.mk 3 ins), encV v, .yld id]) .bool ((leavesF 3 v).map fun p => [encV p]) (okP l0 F) := by
 obtain ⟨n0, m0, s0, c0, w0⟩ := v
 intro id T m hok hm hyt hyf
 have hT : ∀ j, (T j).length = l0 := fun j => (hok j).1.1
 have hT_ : ∀ j, (T j).length = (T 0).length := fun j => (hT j).trans (hT 0).symm
 have hll : ((leavesF 3 (.mk n0 m0 s0 c0 w0)).map fun p => [encV p]).length = s0.length := by simp [leavesF]
 rw [hll] at hm ⊢
 refine mcalls_body Tryz.func51 rfl Tryz.ntmps51 (Nat.le_of_ble_eq_true rfl) ?_
 refine mwp_seq <| qR rfl <| qB rfl rfl rfl rfl rfl <| qB rfl rfl rfl rfl rfl <| qA rfl rfl rfl <| qN <| mwp_seq <| mwp_seq <| qR rfl <| qF rfl rfl rfl fo24_0 <| qL rfl rfl rfl rfl ta3 rfl <| qN <| mwp_block <| mwp_seq <| qR rfl <| qC rfl rfl rfl rfl (eqlQ rfl) <| qA rfl rfl rfl <| qN <| mwp_cond_t rfl (rfl) <| mwp_seq <| mwp_seq <| qR rfl <| qF rfl rfl rfl fo30_2 ?_
 refine qL rfl rfl rfl rfl ta26 rfl <| qE rfl rfl Tryz.underlying26 rfl <| qM rfl rfl rfl <| qN <| mwp_block ?_
 show mwp _ _ _ _ _ _ _ (([] : MS) ++ (T 0 ++ [.cells (encS (.mk 3 ins)).cells, .cells (encV (.mk n0 m0 s0 c0 w0)).cells]))
 refine mwp_len (t := 18) rfl fun hlen => ?_
 rw [List.length_map] at hlen
 refine mwp_loopK (α := Nat) [(2, _), (18, _), (19, _)] (fun i => [(20, .int .i64 (i : Int))]) (fun i => T i ++ [.cells (encS (.mk 3 ins)).cells, .cells (encV (.mk n0 m0 s0 c0 w0)).cells]) (fun i => i ≤ m ∧ i ≤ s0.length) (fun i => s0.length - i) (0) (.keep rfl (.keep rfl (.keep rfl (.nil)))) (.keep rfl (.nil)) (⟨by omega, by omega⟩) (rfl) ?_
 rintro i ⟨hi, his⟩
 refine mwp_seq <| qR rfl <| qC rfl rfl rfl rfl rfl <| qN <| mwp_seq ?_
 refine mwp_cond_split rfl (fun h21 => ?_) (fun h21 => ?_)
 ·
  have hlt : i < s0.length := by simpa using h21
  obtain ⟨t, hs⟩ : ∃ q_, s0[i]? = some q_ := ⟨_, List.getElem?_eq_getElem hlt⟩
  refine mwp_skip <| mwp_seq <| mwp_block <| mwp_seq <| qR rfl <| qO rfl <| op_indexAddr rfl Tryz.underlying26 sz9 (by decide) rfl rfl rfl (get_map hs) ?_
  refine qO rfl <| op_load_sptr rfl rfl ta9 rfl <| qA rfl rfl rfl <| qN <| mwp_seq ?_
  rcases Nat.lt_or_eq_of_le hi with hjm | hjm
  ·
   have hyi : (leavesF 3 (.mk n0 m0 s0 c0 w0))[i]? = some (.mk 0 0 [t] [] []) := by simp [leavesF, hs]
   refine qR rfl <| qM rfl rfl rfl <| qM rfl rfl rfl <| qO rfl <| op_buildSlice rfl Tryz.underlying26 el9 rfl rfl (by decide) (by decide) rfl rfl ?_
   refine qO rfl <| op_viewTo (y := encV (.mk 0 0 [t] [] [])) (op_build rfl Tryz.underlying30 zm30 (.cons fo30_2 sz26 rfl rfl (Nat.le_of_ble_eq_true rfl) .nil) (by kernel_rfl) ⟨rfl, rfl⟩) (.agg (.cons (.refl _) (.cons (.refl _) (.cons (.refl _) (.cons (.nil 1) (.cons (.nil 5) .nil)))))) ?_
   refine qO rfl <| (((hyt i _ hjm (map_one hyi)).frame [.cells (encS (.mk 3 ins)).cells, .cells (encV (.mk n0 m0 s0 c0 w0)).cells]).at0 rfl rfl rfl).mono ?_
   rintro _ _ ⟨rfl, rfl⟩
   refine qO rfl <| op_not rfl rfl <| qN <| mwp_cond_f rfl (rfl) <| mwp_skip <| qR rfl <| qO rfl <| op_arith rfl rfl rfl rfl <| qM rfl rfl rfl <| qN ?_
   refine ⟨i + 1, by omega, ⟨by omega, by omega⟩, rfl, (.keep rfl (.keep rfl (.keep rfl (.nil)))), (.eq rfl (int_succ hlt hlen) (.nil))⟩
  ·
   have hyi : (leavesF 3 (.mk n0 m0 s0 c0 w0))[i]? = some (.mk 0 0 [t] [] []) := by simp [leavesF, hs]
   refine qR rfl <| qM rfl rfl rfl <| qM rfl rfl rfl <| qO rfl <| op_buildSlice rfl Tryz.underlying26 el9 rfl rfl (by decide) (by decide) rfl rfl ?_
   refine qO rfl <| op_viewTo (y := encV (.mk 0 0 [t] [] [])) (op_build rfl Tryz.underlying30 zm30 (.cons fo30_2 sz26 rfl rfl (Nat.le_of_ble_eq_true rfl) .nil) (by kernel_rfl) ⟨rfl, rfl⟩) (.agg (.cons (.refl _) (.cons (.refl _) (.cons (.refl _) (.cons (.nil 1) (.cons (.nil 5) .nil)))))) ?_
   refine qO rfl <| (((hyf i _ hjm (map_one hyi)).frame [.cells (encS (.mk 3 ins)).cells, .cells (encV (.mk n0 m0 s0 c0 w0)).cells]).at0 rfl rfl rfl).mono ?_
   rintro _ _ ⟨rfl, rfl⟩
   refine qO rfl <| op_not rfl rfl <| qN <| mwp_cond_t rfl (rfl) <| mwp_seq <| qR rfl <| qA rfl rfl rfl <| qN <| mwp_ret ?_
   exact ret_tmpS (S' := T (i + 1)) (.inr rfl) Tryz.results51 rfl (.refl _) (.bool _) (by rw [hT_ (i + 1)]; exact Nat.le_refl _) (hok _).2 ⟨congrArg MV.bool (decide_eq_false (by omega)).symm, by rw [hjm, if_pos (by omega)]⟩
 ·
  have hge : i = s0.length := by simp at h21; omega
  refine mwp_exit <| mwp_seq <| qR rfl <| qA rfl rfl rfl <| qN <| mwp_ret ?_
  exact ret_tmpS (S' := T i) (.inr rfl) Tryz.results51 rfl (.refl _) (.bool _) (by rw [hT_ i]; exact Nat.le_refl _) (hok _).2 ⟨congrArg MV.bool (decide_eq_true (by omega)).symm, by rw [if_neg (by omega)]; congr 1; omega⟩
theorem leaves1_give (k : Int) (hk3 : k ≠ 3) (hk7 : k ≠ 7) (ins : List Sch) (v : Val) (F : List (Nat × MObj)) (l0 : Nat) : GiveOk Tryz.prog 51 (fun id => [encS (.mk k ins), encV v, .yld id]) .bool ((leavesF k v).map fun p => [encV p]) (okP l0 F) := by
 obtain ⟨n0, m0, s0, c0, w0⟩ := v
 intro id T m hok hm hyt hyf
 have hT : ∀ j, (T j).length = l0 := fun j => (hok j).1.1
 have hT_ : ∀ j, (T j).length = (T 0).length := fun j => (hT j).trans (hT 0).symm
 have hll : ((leavesF k (.mk n0 m0 s0 c0 w0)).map fun p => [encV p]).length = 1 := by rw [leaves_other hk3]; rfl
 have hyi : (leavesF k (.mk n0 m0 s0 c0 w0))[0]? = some (.mk n0 m0 s0 c0 w0) := by rw [leaves_other hk3]; rfl
 rw [hll] at hm ⊢
 refine mcalls_body Tryz.func51 rfl Tryz.ntmps51 (Nat.le_of_ble_eq_true rfl) ?_
 refine mwp_seq <| qR rfl <| qB rfl rfl rfl rfl rfl <| qB rfl rfl rfl rfl rfl <| qA rfl rfl rfl <| qN <| mwp_seq <| mwp_seq <| qR rfl <| qF rfl rfl rfl fo24_0 <| qL rfl rfl rfl rfl ta3 rfl <| qN <| mwp_block <| mwp_seq <| qR rfl <| qC rfl rfl rfl rfl (eqlN hk3) <| qA rfl rfl rfl <| qN <| mwp_cond_f rfl (rfl) <| mwp_seq <| qR rfl <| qC rfl rfl rfl rfl (eqlN hk7) ?_
 refine qA rfl rfl rfl <| qN <| mwp_cond_f rfl (rfl) <| mwp_skip <| mwp_seq ?_
 rcases Nat.lt_or_eq_of_le hm with hjm | hjm
 ·
  refine qR rfl <| qM rfl rfl rfl <| qO rfl <| op_viewTo (y := encV (.mk n0 m0 s0 c0 w0)) (op_load' rfl rfl rfl ta30 rfl ⟨rfl, rfl⟩) (.refl _) <| qO rfl <| (((hyf 0 _ (by omega) (map_one hyi)).frame [.cells (encS (.mk k ins)).cells, .cells (encV (.mk n0 m0 s0 c0 w0)).cells]).at0 rfl rfl rfl).mono ?_
  rintro _ _ ⟨rfl, rfl⟩
  refine qA rfl rfl rfl <| qN <| mwp_ret ?_
  exact ret_tmpS (S' := T 1) (.inr rfl) Tryz.results51 rfl (.refl _) (.bool _) (by rw [hT_ 1]; exact Nat.le_refl _) (hok _).2 ⟨congrArg MV.bool (decide_eq_false (by omega)).symm, by rw [if_pos (by omega)]; congr 1; omega⟩
 ·
  refine qR rfl <| qM rfl rfl rfl <| qO rfl <| op_viewTo (y := encV (.mk n0 m0 s0 c0 w0)) (op_load' rfl rfl rfl ta30 rfl ⟨rfl, rfl⟩) (.refl _) <| qO rfl <| (((hyt 0 _ (by omega) (map_one hyi)).frame [.cells (encS (.mk k ins)).cells, .cells (encV (.mk n0 m0 s0 c0 w0)).cells]).at0 rfl rfl rfl).mono ?_
  rintro _ _ ⟨rfl, rfl⟩
  refine qA rfl rfl rfl <| qN <| mwp_ret ?_
  exact ret_tmpS (S' := T 1) (.inr rfl) Tryz.results51 rfl (.refl _) (.bool _) (by rw [hT_ 1]; exact Nat.le_refl _) (hok _).2 ⟨congrArg MV.bool (decide_eq_true (by omega)).symm, by rw [if_neg (by omega)]; congr 1; omega⟩
theorem paired0_give (t1 t2 : Sch) (hs : isF 16 (.mk 5 [t1, t2]) = true) (h1 : isF 16 t1 = true) (h2 : isF 16 t2 = true) (n0 m0 : Int) (s0 : List Bs) (c0 : List (List Tk)) (x0 x1 : Val) (ys : List Val) (hit : EachOk t1 x0 ys) (F : List (Nat × MObj)) (l0 : Nat) : GiveOk Tryz.prog 49 (fun id => [encS (.mk 5 [t1, t2]), encV (.mk n0 m0 s0 c0 [x0, x1]), .int .i64 0, .yld id]) .bool (ys.map fun p => [encV ((fun p => .mk 0 0 [] [] [p, bottomF t2]) p)]) (okP l0 F) := by
 obtain ⟨k1, i1⟩ := t1
 obtain ⟨k2, i2⟩ := t2
 obtain ⟨na, ma, sa, ca, wa⟩ := x0
 obtain ⟨nb, mb, sb, cb, wb⟩ := x1
 intro id T m hok hm hyt hyf
 have hT : ∀ j, (T j).length = l0 := fun j => (hok j).1.1
 have hT_ : ∀ j, (T j).length = (T 0).length := fun j => (hT j).trans (hT 0).symm
 have hW := within_give (.mk k1 i1) (.mk na ma sa ca wa) ys (fun p => .mk 0 0 [] [] [p, bottomF (.mk k2 i2)]) 78 [.ref ((T 0).length + 0) 0, .ref ((T 0).length + 2) 0] [((T 0).length + 0, .cells (encS (.mk 5 [.mk k1 i1, .mk k2 i2])).cells), ((T 0).length + 2, .cells [.int .i64 0])] co78 hit (fun p S' hS => pairAlone0_spec _ _ hs h1 h2 p _ _ S' hS.hd hS.tl.hd) (l0 + 3)
 have hcall := (hW).use (a := 0) (M := m) (T := T) (J := [.cells (encS (.mk 5 [.mk k1 i1, .mk k2 i2])).cells, .cells (encV (.mk n0 m0 s0 c0 [.mk na ma sa ca wa, .mk nb mb sb cb wb])).cells, .cells [.int .i64 0]]) (fun j => okP_app (hok j) rfl (.cons (by rw [own_get (hT_ j)]; rfl) (.cons (by rw [own_get (hT_ j)]; rfl) .nil)) (fun o ho => by simp at ho; rcases ho with rfl | rfl | rfl <;> first | exact cl_boxS _ _ | exact cl_boxV _ _ | exact cl_int1 _ _ _)) (fun j y h => by rw [Nat.zero_add]; exact h) hyt hyf (Nat.zero_le _)
 rw [Nat.zero_add] at hcall
 simp only [List.length_map] at hcall hm ⊢
 refine mcalls_body Tryz.func49 rfl Tryz.ntmps49 (Nat.le_of_ble_eq_true rfl) ?_
 refine mwp_seq <| qR rfl <| qB rfl rfl rfl rfl rfl <| qB rfl rfl rfl rfl rfl <| qB rfl rfl rfl rfl rfl <| qA rfl rfl rfl <| qN <| mwp_seq <| qR rfl <| qO rfl <| op_makeFunc rfl rfl rfl <| qA rfl rfl rfl <| qN <| mwp_seq ?_
 refine mwp_draw [12] [_, T (if ys.length ≤ m then ys.length else m + 1) ++ [.cells (encS (.mk 5 [.mk k1 i1, .mk k2 i2])).cells, .cells (encV (.mk n0 m0 s0 c0 [.mk na ma sa ca wa, .mk nb mb sb cb wb])).cells, .cells [.int .i64 0]]] mo (by decide) rfl rfl rfl rfl ?_
 refine dOps_op rfl rfl (.cons (op_fieldAddr_ref rfl rfl fo24_1 ⟨rfl, rfl⟩) (.cons (op_fieldAddr_ref rfl rfl fo24_1 ⟨rfl, rfl⟩) (.nil))) <| dOps_op rfl rfl (.cons (op_load_ref rfl rfl ((own_get (hT_ _)).trans rfl) ta22 rfl ⟨rfl, rfl⟩) (.cons (op_load_ref rfl rfl ((own_get (hT_ _)).trans rfl) ta22 rfl ⟨rfl, rfl⟩) (.nil))) <| dOps_op rfl rfl (.cons (op_load_ref rfl rfl ((own_get (hT_ _)).trans rfl) ta3 rfl ⟨rfl, rfl⟩) (.cons (op_load_ref rfl rfl ((own_get (hT_ _)).trans rfl) ta3 rfl ⟨rfl, rfl⟩) (.nil))) <| dOps_op rfl rfl (.cons (op_indexAddr rfl Tryz.underlying22 sz24 (by decide) rfl rfl rfl (show _ = some (encS (.mk k1 i1)) from rfl) ⟨rfl, rfl⟩) (.cons (op_indexAddr rfl Tryz.underlying22 sz24 (by decide) rfl rfl rfl (show _ = some (encS (.mk k1 i1)) from rfl) ⟨rfl, rfl⟩) (.nil))) ?_
 refine dO rfl rfl rfl (op_load_sptr rfl rfl ta24 rfl ⟨rfl, rfl⟩) <| dOps_op rfl rfl (.cons (op_fieldAddr_ref rfl rfl fo30_4 ⟨rfl, rfl⟩) (.cons (op_fieldAddr_ref rfl rfl fo30_4 ⟨rfl, rfl⟩) (.nil))) <| dOps_op rfl rfl (.cons (op_load_ref rfl rfl ((own_get (hT_ _)).trans rfl) ta28 rfl ⟨rfl, rfl⟩) (.cons (op_load_ref rfl rfl ((own_get (hT_ _)).trans rfl) ta28 rfl ⟨rfl, rfl⟩) (.nil))) <| dOps_op rfl rfl (.cons (op_load_ref rfl rfl ((own_get (hT_ _)).trans rfl) ta3 rfl ⟨rfl, rfl⟩) (.cons (op_load_ref rfl rfl ((own_get (hT_ _)).trans rfl) ta3 rfl ⟨rfl, rfl⟩) (.nil))) <| dOps_op rfl rfl (.cons (op_indexAddr rfl Tryz.underlying28 sz30 (by decide) rfl rfl rfl (show _ = some (encV (.mk na ma sa ca wa)) from rfl) ⟨rfl, rfl⟩) (.cons (op_indexAddr rfl Tryz.underlying28 sz30 (by decide) rfl rfl rfl (show _ = some (encV (.mk na ma sa ca wa)) from rfl) ⟨rfl, rfl⟩) (.nil))) ?_
 refine dO rfl rfl rfl (op_load_sptr rfl rfl ta30 rfl ⟨rfl, rfl⟩) <| dO rfl rfl rfl (op_move rfl rfl ⟨rfl, rfl⟩) <| dO rfl rfl rfl (op_move rfl rfl ⟨rfl, rfl⟩) <| dOps_eff rfl rfl rfl rfl (op_call rfl rfl rfl co48 (hcall)) <| dO rfl rfl rfl (op_assign rfl rfl ⟨rfl, rfl⟩) <| dOps_nil <| mwp_ret ?_
 exact ret_tmpS (S' := T (if ys.length ≤ m then ys.length else m + 1)) (.inr rfl) Tryz.results49 rfl (.refl _) (.bool _) (Nat.le_of_eq (hT_ _).symm) (hok _).2 ⟨congrArg MV.bool (decide_eq_decide.2 ⟨fun h => by omega, fun h => by omega⟩), congrArg T (by split <;> split <;> omega)⟩
theorem paired1_give (t1 t2 : Sch) (hs : isF 16 (.mk 5 [t1, t2]) = true) (h1 : isF 16 t1 = true) (h2 : isF 16 t2 = true) (n0 m0 : Int) (s0 : List Bs) (c0 : List (List Tk)) (x0 x1 : Val) (ys : List Val) (hit : EachOk t2 x1 ys) (F : List (Nat × MObj)) (l0 : Nat) : GiveOk Tryz.prog 49 (fun id => [encS (.mk 5 [t1, t2]), encV (.mk n0 m0 s0 c0 [x0, x1]), .int .i64 1, .yld id]) .bool (ys.map fun p => [encV ((fun p => .mk 0 0 [] [] [bottomF t1, p]) p)]) (okP l0 F) := by
 obtain ⟨k1, i1⟩ := t1
 obtain ⟨k2, i2⟩ := t2
 obtain ⟨na, ma, sa, ca, wa⟩ := x0
 obtain ⟨nb, mb, sb, cb, wb⟩ := x1
 intro id T m hok hm hyt hyf
 have hT : ∀ j, (T j).length = l0 := fun j => (hok j).1.1
 have hT_ : ∀ j, (T j).length = (T 0).length := fun j => (hT j).trans (hT 0).symm
 have hW := within_give (.mk k2 i2) (.mk nb mb sb cb wb) ys (fun p => .mk 0 0 [] [] [bottomF (.mk k1 i1), p]) 78 [.ref ((T 0).length + 0) 0, .ref ((T 0).length + 2) 0] [((T 0).length + 0, .cells (encS (.mk 5 [.mk k1 i1, .mk k2 i2])).cells), ((T 0).length + 2, .cells [.int .i64 1])] co78 hit (fun p S' hS => pairAlone1_spec _ _ hs h1 h2 p _ _ S' hS.hd hS.tl.hd) (l0 + 3)
 have hcall := (hW).use (a := 0) (M := m) (T := T) (J := [.cells (encS (.mk 5 [.mk k1 i1, .mk k2 i2])).cells, .cells (encV (.mk n0 m0 s0 c0 [.mk na ma sa ca wa, .mk nb mb sb cb wb])).cells, .cells [.int .i64 1]]) (fun j => okP_app (hok j) rfl (.cons (by rw [own_get (hT_ j)]; rfl) (.cons (by rw [own_get (hT_ j)]; rfl) .nil)) (fun o ho => by simp at ho; rcases ho with rfl | rfl | rfl <;> first | exact cl_boxS _ _ | exact cl_boxV _ _ | exact cl_int1 _ _ _)) (fun j y h => by rw [Nat.zero_add]; exact h) hyt hyf (Nat.zero_le _)
 rw [Nat.zero_add] at hcall
 simp only [List.length_map] at hcall hm ⊢
 refine mcalls_body Tryz.func49 rfl Tryz.ntmps49 (Nat.le_of_ble_eq_true rfl) ?_
 refine mwp_seq <| qR rfl <| qB rfl rfl rfl rfl rfl <| qB rfl rfl rfl rfl rfl <| qB rfl rfl rfl rfl rfl <| qA rfl rfl rfl <| qN <| mwp_seq <| qR rfl <| qO rfl <| op_makeFunc rfl rfl rfl <| qA rfl rfl rfl <| qN <| mwp_seq ?_
 refine mwp_draw [12] [_, T (if ys.length ≤ m then ys.length else m + 1) ++ [.cells (encS (.mk 5 [.mk k1 i1, .mk k2 i2])).cells, .cells (encV (.mk n0 m0 s0 c0 [.mk na ma sa ca wa, .mk nb mb sb cb wb])).cells, .cells [.int .i64 1]]] mo (by decide) rfl rfl rfl rfl ?_
 refine dOps_op rfl rfl (.cons (op_fieldAddr_ref rfl rfl fo24_1 ⟨rfl, rfl⟩) (.cons (op_fieldAddr_ref rfl rfl fo24_1 ⟨rfl, rfl⟩) (.nil))) <| dOps_op rfl rfl (.cons (op_load_ref rfl rfl ((own_get (hT_ _)).trans rfl) ta22 rfl ⟨rfl, rfl⟩) (.cons (op_load_ref rfl rfl ((own_get (hT_ _)).trans rfl) ta22 rfl ⟨rfl, rfl⟩) (.nil))) <| dOps_op rfl rfl (.cons (op_load_ref rfl rfl ((own_get (hT_ _)).trans rfl) ta3 rfl ⟨rfl, rfl⟩) (.cons (op_load_ref rfl rfl ((own_get (hT_ _)).trans rfl) ta3 rfl ⟨rfl, rfl⟩) (.nil))) <| dOps_op rfl rfl (.cons (op_indexAddr rfl Tryz.underlying22 sz24 (by decide) rfl rfl rfl (show _ = some (encS (.mk k2 i2)) from rfl) ⟨rfl, rfl⟩) (.cons (op_indexAddr rfl Tryz.underlying22 sz24 (by decide) rfl rfl rfl (show _ = some (encS (.mk k2 i2)) from rfl) ⟨rfl, rfl⟩) (.nil))) ?_
 refine dO rfl rfl rfl (op_load_sptr rfl rfl ta24 rfl ⟨rfl, rfl⟩) <| dOps_op rfl rfl (.cons (op_fieldAddr_ref rfl rfl fo30_4 ⟨rfl, rfl⟩) (.cons (op_fieldAddr_ref rfl rfl fo30_4 ⟨rfl, rfl⟩) (.nil))) <| dOps_op rfl rfl (.cons (op_load_ref rfl rfl ((own_get (hT_ _)).trans rfl) ta28 rfl ⟨rfl, rfl⟩) (.cons (op_load_ref rfl rfl ((own_get (hT_ _)).trans rfl) ta28 rfl ⟨rfl, rfl⟩) (.nil))) <| dOps_op rfl rfl (.cons (op_load_ref rfl rfl ((own_get (hT_ _)).trans rfl) ta3 rfl ⟨rfl, rfl⟩) (.cons (op_load_ref rfl rfl ((own_get (hT_ _)).trans rfl) ta3 rfl ⟨rfl, rfl⟩) (.nil))) <| dOps_op rfl rfl (.cons (op_indexAddr rfl Tryz.underlying28 sz30 (by decide) rfl rfl rfl (show _ = some (encV (.mk nb mb sb cb wb)) from rfl) ⟨rfl, rfl⟩) (.cons (op_indexAddr rfl Tryz.underlying28 sz30 (by decide) rfl rfl rfl (show _ = some (encV (.mk nb mb sb cb wb)) from rfl) ⟨rfl, rfl⟩) (.nil))) ?_
 refine dO rfl rfl rfl (op_load_sptr rfl rfl ta30 rfl ⟨rfl, rfl⟩) <| dO rfl rfl rfl (op_move rfl rfl ⟨rfl, rfl⟩) <| dO rfl rfl rfl (op_move rfl rfl ⟨rfl, rfl⟩) <| dOps_eff rfl rfl rfl rfl (op_call rfl rfl rfl co48 (hcall)) <| dO rfl rfl rfl (op_assign rfl rfl ⟨rfl, rfl⟩) <| dOps_nil <| mwp_ret ?_
 exact ret_tmpS (S' := T (if ys.length ≤ m then ys.length else m + 1)) (.inr rfl) Tryz.results49 rfl (.refl _) (.bool _) (Nat.le_of_eq (hT_ _).symm) (hok _).2 ⟨congrArg MV.bool (decide_eq_decide.2 ⟨fun h => by omega, fun h => by omega⟩), congrArg T (by split <;> split <;> omega)⟩
theorem sib_give (k : Int) (t1 : Sch) (h1 : isF 16 t1 = true) (n0 m0 : Int) (s0 : List Bs) (c0 : List (List Tk)) (w0 : List Val) (i : Nat) (x : Val) (cx : List Tk) (hwx : w0[i]? = some x) (hcx : c0[i]? = some cx) (hi40 : i ≤ 1000) (ys : List Val) (hit : EachOk t1 x ys) (F : List (Nat × MObj)) (l0 : Nat) : GiveOk Tryz.prog 50 (fun id => [encS (.mk k [t1]), encV (.mk n0 m0 s0 c0 w0), .int .i64 (i : Int), .yld id]) .bool ((if bottomF t1 = x then [x] else ys).map fun p => [encV (.mk 0 0 [] [cx] [p])]) (okP l0 F) := by
 obtain ⟨k1, i1⟩ := t1
 obtain ⟨n1, m1, s1, c1, w1⟩ := x
 intro id T m hok hm hyt hyf
 have hT : ∀ j, (T j).length = l0 := fun j => (hok j).1.1
 have hT_ : ∀ j, (T j).length = (T 0).length := fun j => (hT j).trans (hT 0).symm
 have hW := within_give (.mk k1 i1) (.mk n1 m1 s1 c1 w1) ys (fun p => .mk 0 0 [] [cx] [p]) 79 [.ref ((T 0).length + 1) 0, .ref ((T 0).length + 2) 0] [((T 0).length + 1, .cells (encV (.mk n0 m0 s0 c0 w0)).cells), ((T 0).length + 2, .cells [.int .i64 (i : Int)])] co79 hit (fun p S' hS => sibAlone_spec n0 m0 s0 c0 w0 i cx hcx hi40 p _ _ S' hS.hd hS.tl.hd) (l0 + 3)
 have hcall := fun hyt hyf => (hW).use (id := id) (zs := ys.map fun p => [encV (.mk 0 0 [] [cx] [p])]) (a := 0) (M := m) (T := T) (J := [.cells (encS (.mk k [.mk k1 i1])).cells, .cells (encV (.mk n0 m0 s0 c0 w0)).cells, .cells [.int .i64 (i : Int)]]) (fun j => okP_app (hok j) rfl (.cons (by rw [own_get (hT_ j)]; rfl) (.cons (by rw [own_get (hT_ j)]; rfl) .nil)) (fun o ho => by simp at ho; rcases ho with rfl | rfl | rfl <;> first | exact cl_boxS _ _ | exact cl_boxV _ _ | exact cl_int1 _ _ _)) (fun j y h => by rw [Nat.zero_add]; exact h) hyt hyf (Nat.zero_le _)
 simp only [Nat.zero_add, List.length_map] at hcall
 refine mcalls_body Tryz.func50 rfl Tryz.ntmps50 (Nat.le_of_ble_eq_true rfl) ?_
 refine mwp_seq <| qR rfl <| qB rfl rfl rfl rfl rfl <| qB rfl rfl rfl rfl rfl <| qB rfl rfl rfl rfl rfl <| qA rfl rfl rfl <| qN <| mwp_seq <| qR rfl <| qO rfl <| op_makeFunc rfl rfl rfl <| qA rfl rfl rfl <| qN <| mwp_seq <| mwp_seq ?_
 by_cases hb : bottomF (.mk k1 i1) = (.mk n1 m1 s1 c1 w1)
 ·
  have hno : noneF (.mk k1 i1) (.mk n1 m1 s1 c1 w1) = true := by unfold noneF; rw [bot_eq h1 (Nat.le_refl _)]; exact decide_eq_true hb
  have hmm : m ≤ 1 := by rw [if_pos hb] at hm; simpa using hm
  rw [if_pos hb] at hyt hyf ⊢
  refine mwp_draw [] [_] mo (by decide) rfl rfl rfl rfl ?_
  refine dO rfl rfl rfl (op_fieldAddr_ref rfl rfl fo24_1 ⟨rfl, rfl⟩) <| dO rfl rfl rfl (op_load_ref rfl rfl ((own_get (hT_ _)).trans rfl) ta22 rfl ⟨rfl, rfl⟩) <| dO rfl rfl rfl (op_indexAddr rfl Tryz.underlying22 sz24 (by decide) rfl rfl rfl (show _ = some (encS (.mk k1 i1)) from rfl) ⟨rfl, rfl⟩) ?_
  refine dO rfl rfl rfl (op_load_sptr rfl rfl ta24 rfl ⟨rfl, rfl⟩) <| dO rfl rfl rfl (op_fieldAddr_ref rfl rfl fo30_4 ⟨rfl, rfl⟩) <| dO rfl rfl rfl (op_load_ref rfl rfl ((own_get (hT_ _)).trans rfl) ta28 rfl ⟨rfl, rfl⟩) <| dO rfl rfl rfl (op_load_ref rfl rfl ((own_get (hT_ _)).trans rfl) ta3 rfl ⟨rfl, rfl⟩) <| dO rfl rfl rfl (op_indexAddr rfl Tryz.underlying28 sz30 (by decide) rfl rfl rfl (encVs_get hwx) ⟨rfl, rfl⟩) ?_
  refine dO rfl rfl rfl (op_load_sptr rfl rfl ta30 rfl ⟨rfl, rfl⟩) <| dOps_op rfl rfl (.cons (op_call rfl rfl rfl co46 (None_spec (.mk k1 i1) (.mk n1 m1 s1 c1 w1) _)) .nil) ?_
  rw [hno]
  refine dOps_nil <| mwp_cond_t rfl (rfl) <| mwp_seq ?_
  rcases Nat.lt_or_eq_of_le hmm with hjm | hjm
  ·
   refine qR rfl <| qM rfl rfl rfl <| qM rfl rfl rfl <| qF rfl rfl rfl fo30_4 <| qO rfl <| op_load_ref rfl rfl ((own_get (hT_ _)).trans rfl) ta28 rfl <| qO rfl <| op_load_ref rfl rfl ((own_get (hT_ _)).trans rfl) ta3 rfl <| qO rfl <| op_indexAddr rfl Tryz.underlying28 sz30 (by decide) rfl rfl rfl (encVs_get hwx) ?_
   refine qO rfl <| op_viewTo (y := encV (.mk n1 m1 s1 c1 w1)) (op_load_sptr rfl rfl ta30 rfl ⟨rfl, rfl⟩) (.refl _) ?_
   refine wOps_op rfl (op_call rfl rfl rfl co79 ((sibAlone_spec n0 m0 s0 c0 w0 i cx hcx hi40 (.mk n1 m1 s1 c1 w1) _ _ _ ((own_get (hT_ _)).trans rfl) ((own_get (hT_ _)).trans rfl)).mono ?_))
   rintro _ _ ⟨rfl, rfl⟩
   refine qO rfl <| (((hyf 0 _ (by omega) rfl).frame [.cells (encS (.mk k [.mk k1 i1])).cells, .cells (encV (.mk n0 m0 s0 c0 w0)).cells, .cells [.int .i64 (i : Int)]]).at0 rfl rfl rfl).mono ?_
   rintro _ _ ⟨rfl, rfl⟩
   refine qA rfl rfl rfl <| qN <| mwp_ret ?_
   exact ret_tmpS (S' := T 1) (.inr rfl) Tryz.results50 rfl (.refl _) (.bool _) (Nat.le_of_eq (hT_ _).symm) (hok _).2 ⟨congrArg MV.bool (decide_eq_false (by simp; omega)).symm, by rw [if_pos (by simp; omega)]; congr 1; omega⟩
  ·
   refine qR rfl <| qM rfl rfl rfl <| qM rfl rfl rfl <| qF rfl rfl rfl fo30_4 <| qO rfl <| op_load_ref rfl rfl ((own_get (hT_ _)).trans rfl) ta28 rfl <| qO rfl <| op_load_ref rfl rfl ((own_get (hT_ _)).trans rfl) ta3 rfl <| qO rfl <| op_indexAddr rfl Tryz.underlying28 sz30 (by decide) rfl rfl rfl (encVs_get hwx) ?_
   refine qO rfl <| op_viewTo (y := encV (.mk n1 m1 s1 c1 w1)) (op_load_sptr rfl rfl ta30 rfl ⟨rfl, rfl⟩) (.refl _) ?_
   refine wOps_op rfl (op_call rfl rfl rfl co79 ((sibAlone_spec n0 m0 s0 c0 w0 i cx hcx hi40 (.mk n1 m1 s1 c1 w1) _ _ _ ((own_get (hT_ _)).trans rfl) ((own_get (hT_ _)).trans rfl)).mono ?_))
   rintro _ _ ⟨rfl, rfl⟩
   refine qO rfl <| (((hyt 0 _ (by omega) rfl).frame [.cells (encS (.mk k [.mk k1 i1])).cells, .cells (encV (.mk n0 m0 s0 c0 w0)).cells, .cells [.int .i64 (i : Int)]]).at0 rfl rfl rfl).mono ?_
   rintro _ _ ⟨rfl, rfl⟩
   refine qA rfl rfl rfl <| qN <| mwp_ret ?_
   exact ret_tmpS (S' := T 1) (.inr rfl) Tryz.results50 rfl (.refl _) (.bool _) (Nat.le_of_eq (hT_ _).symm) (hok _).2 ⟨congrArg MV.bool (decide_eq_true (by simp; omega)).symm, by rw [if_neg (by simp; omega)]; congr 1; omega⟩
 ·
  have hno : noneF (.mk k1 i1) (.mk n1 m1 s1 c1 w1) = false := by unfold noneF; rw [bot_eq h1 (Nat.le_refl _)]; exact decide_eq_false hb
  rw [if_neg hb] at hm hyt hyf ⊢
  replace hcall := hcall hyt hyf
  rw [List.length_map] at hm
  refine mwp_draw [] [_] mo (by decide) rfl rfl rfl rfl ?_
  refine dO rfl rfl rfl (op_fieldAddr_ref rfl rfl fo24_1 ⟨rfl, rfl⟩) <| dO rfl rfl rfl (op_load_ref rfl rfl ((own_get (hT_ _)).trans rfl) ta22 rfl ⟨rfl, rfl⟩) <| dO rfl rfl rfl (op_indexAddr rfl Tryz.underlying22 sz24 (by decide) rfl rfl rfl (show _ = some (encS (.mk k1 i1)) from rfl) ⟨rfl, rfl⟩) ?_
  refine dO rfl rfl rfl (op_load_sptr rfl rfl ta24 rfl ⟨rfl, rfl⟩) <| dO rfl rfl rfl (op_fieldAddr_ref rfl rfl fo30_4 ⟨rfl, rfl⟩) <| dO rfl rfl rfl (op_load_ref rfl rfl ((own_get (hT_ _)).trans rfl) ta28 rfl ⟨rfl, rfl⟩) <| dO rfl rfl rfl (op_load_ref rfl rfl ((own_get (hT_ _)).trans rfl) ta3 rfl ⟨rfl, rfl⟩) <| dO rfl rfl rfl (op_indexAddr rfl Tryz.underlying28 sz30 (by decide) rfl rfl rfl (encVs_get hwx) ⟨rfl, rfl⟩) ?_
  refine dO rfl rfl rfl (op_load_sptr rfl rfl ta30 rfl ⟨rfl, rfl⟩) <| dOps_op rfl rfl (.cons (op_call rfl rfl rfl co46 (None_spec (.mk k1 i1) (.mk n1 m1 s1 c1 w1) _)) .nil) ?_
  rw [hno]
  refine dOps_nil <| mwp_cond_f rfl (rfl) <| mwp_skip <| mwp_seq ?_
  refine mwp_draw [11] [_, T (if ys.length ≤ m then ys.length else m + 1) ++ [.cells (encS (.mk k [.mk k1 i1])).cells, .cells (encV (.mk n0 m0 s0 c0 w0)).cells, .cells [.int .i64 (i : Int)]]] mo (by decide) rfl rfl rfl rfl ?_
  refine dOps_op rfl rfl (.cons (op_fieldAddr_ref rfl rfl fo24_1 ⟨rfl, rfl⟩) (.cons (op_fieldAddr_ref rfl rfl fo24_1 ⟨rfl, rfl⟩) (.nil))) <| dOps_op rfl rfl (.cons (op_load_ref rfl rfl ((own_get (hT_ _)).trans rfl) ta22 rfl ⟨rfl, rfl⟩) (.cons (op_load_ref rfl rfl ((own_get (hT_ _)).trans rfl) ta22 rfl ⟨rfl, rfl⟩) (.nil))) <| dOps_op rfl rfl (.cons (op_indexAddr rfl Tryz.underlying22 sz24 (by decide) rfl rfl rfl (show _ = some (encS (.mk k1 i1)) from rfl) ⟨rfl, rfl⟩) (.cons (op_indexAddr rfl Tryz.underlying22 sz24 (by decide) rfl rfl rfl (show _ = some (encS (.mk k1 i1)) from rfl) ⟨rfl, rfl⟩) (.nil))) ?_
  refine dO rfl rfl rfl (op_load_sptr rfl rfl ta24 rfl ⟨rfl, rfl⟩) <| dOps_op rfl rfl (.cons (op_fieldAddr_ref rfl rfl fo30_4 ⟨rfl, rfl⟩) (.cons (op_fieldAddr_ref rfl rfl fo30_4 ⟨rfl, rfl⟩) (.nil))) <| dOps_op rfl rfl (.cons (op_load_ref rfl rfl ((own_get (hT_ _)).trans rfl) ta28 rfl ⟨rfl, rfl⟩) (.cons (op_load_ref rfl rfl ((own_get (hT_ _)).trans rfl) ta28 rfl ⟨rfl, rfl⟩) (.nil))) <| dOps_op rfl rfl (.cons (op_load_ref rfl rfl ((own_get (hT_ _)).trans rfl) ta3 rfl ⟨rfl, rfl⟩) (.cons (op_load_ref rfl rfl ((own_get (hT_ _)).trans rfl) ta3 rfl ⟨rfl, rfl⟩) (.nil))) <| dOps_op rfl rfl (.cons (op_indexAddr rfl Tryz.underlying28 sz30 (by decide) rfl rfl rfl (encVs_get hwx) ⟨rfl, rfl⟩) (.cons (op_indexAddr rfl Tryz.underlying28 sz30 (by decide) rfl rfl rfl (encVs_get hwx) ⟨rfl, rfl⟩) (.nil))) ?_
  refine dO rfl rfl rfl (op_load_sptr rfl rfl ta30 rfl ⟨rfl, rfl⟩) <| dO rfl rfl rfl (op_move rfl rfl ⟨rfl, rfl⟩) <| dO rfl rfl rfl (op_move rfl rfl ⟨rfl, rfl⟩) <| dOps_eff rfl rfl rfl rfl (op_call rfl rfl rfl co48 (hcall)) <| dO rfl rfl rfl (op_assign rfl rfl ⟨rfl, rfl⟩) <| dOps_nil <| mwp_ret ?_
  rw [List.length_map]
  exact ret_tmpS (S' := T (if ys.length ≤ m then ys.length else m + 1)) (.inr rfl) Tryz.results50 rfl (.refl _) (.bool _) (Nat.le_of_eq (hT_ _).symm) (hok _).2 ⟨congrArg MV.bool (decide_eq_decide.2 ⟨fun h => by omega, fun h => by omega⟩), congrArg T (by split <;> split <;> omega)⟩
end Go.Proofs.YtnfcnpdpfgcchaaGreat
end
section
set_option linter.unusedVariables false
set_option linter.unusedSimpArgs false
set_option maxRecDepth 20000
set_option maxHeartbeats 400000
namespace Go.Proofs.YtnfcnpdpfgcchaaGreat
open Go Go.MV
def OwnI (i : Nat) : MS := (List.range (i + 1)).map fun q : Nat => .cells [.int .i64 (q : Int)]
theorem own_succ (i : Nat) : OwnI (i + 1) = OwnI i ++ [.cells [.int .i64 ((i + 1 : Nat) : Int)]] := by unfold OwnI; rw [List.range_succ, List.map_append]; rfl
theorem own_len (i : Nat) : (OwnI i).length = i + 1 := by simp [OwnI]
theorem own_cl_ (i n : Nat) : ∀ o ∈ OwnI i, o.cl n := fun o ho => by
 obtain ⟨q, _, rfl⟩ := List.mem_map.1 ho
 exact cl_int1 _ _ _
theorem getI {A A' : MS} {i : Nat} (hl : A'.length = A.length) : (A' ++ OwnI i)[A.length + i]? = some (.cells [.int .i64 (i : Int)]) := by
 rw [own_get hl]
 simp [OwnI]
theorem getX {A A' : MS} {i : Nat} {c : MObj} (hl : A'.length = A.length) : (A' ++ (OwnI i ++ [c]))[A.length + (i + 1)]? = some c := by
 rw [own_get hl, List.getElem?_append_right (by rw [own_len]; exact Nat.le_refl _), own_len, Nat.sub_self]
 rfl
theorem setX {A A' : MS} {i : Nat} {c d : MObj} (hl : A'.length = A.length) : (A' ++ (OwnI i ++ [c])).set (A.length + (i + 1)) d = A' ++ (OwnI i ++ [d]) := by
 rw [own_set hl, List.set_append_right _ _ (by rw [own_len]; exact Nat.le_refl _), own_len, Nat.sub_self]
 rfl
def tE (off : Nat → Nat) (m i : Nat) : Nat := if off i ≤ m then off i else m + 1
theorem lenX {A A' : MS} {i : Nat} (hl : A'.length = A.length) : (A' ++ OwnI i).length = A.length + (i + 1) := by rw [List.length_append, own_len, hl]
def offG (G : Nat → List Val) (i : Nat) : Nat := ((List.range i).flatMap G).length
theorem off_succ (G : Nat → List Val) (i : Nat) : offG G (i + 1) = offG G i + (G i).length := fm_len G i
theorem off_le (G : Nat → List Val) {i : Nat} : ∀ {n : Nat}, i ≤ n → offG G i ≤ offG G n
 | 0, h => by
  have : i = 0 := by omega
  subst this
  exact Nat.le_refl _
 | n + 1, h => by
  rcases Nat.lt_or_ge i (n + 1) with h1 | h1
  ·have := off_le G (i := i) (n := n) (by omega)
   rw [off_succ]
   omega
  ·have : i = n + 1 := by omega
   subst this
   exact Nat.le_refl _
theorem give_round {f : FuncId} {args : Nat → List MV} {T : Nat → MS} {id m l0 l1 i n : Nat} {G : Nat → List Val} {ys : List (List MV)} {F F' : List (Nat × MObj)} (H : GiveOk Tryz.prog f args .bool ys (okP l1 F')) (hys : ys = (G i).map fun p => [encV p]) (hok : ∀ j, okP l0 F (T j)) (hl1 : l1 = l0 + (i + 1)) (hF' : ∀ j, Sees F' (T j ++ OwnI i)) (hi : i < n)
  (hyt : ∀ j y, j < m → (((List.range n).flatMap G).map fun p => [encV p])[j]? = some y → YStep Tryz.prog id y (T j) true (T (j + 1))) (hyf : ∀ j y, j = m → (((List.range n).flatMap G).map fun p => [encV p])[j]? = some y → YStep Tryz.prog id y (T j) false (T (j + 1))) (ha : offG G i ≤ m) :
  MCalls Tryz.prog f (args id) (T (offG G i) ++ OwnI i) fun v σ' => v = .bool (decide (offG G (i + 1) ≤ m)) ∧ σ' = T (tE (offG G) m (i + 1)) ++ OwnI i := by
 subst hl1 hys
 have := H.use (id := id) (a := offG G i) (M := m) (T := T) (J := OwnI i) (fun j => okP_app (hok j) (own_len i) (hF' j) (own_cl_ i _)) (fun j y h => ?_) hyt hyf ha
 ·rw [List.length_map, ← off_succ] at this
  exact this
 ·rw [List.getElem?_map] at h ⊢
  obtain ⟨p, hp, rfl⟩ := Option.map_eq_some_iff.1 h
  unfold offG
  rw [fm_get G hi hp]
  rfl
theorem each_none (k : Int) (ins : List Sch) (hs : isF 16 (.mk k ins) = true) (n0 m0 : Int) (s0 : List Bs) (c0 : List (List Tk)) (w0 : List Val) (hb : bottomF (.mk k ins) = .mk n0 m0 s0 c0 w0) : EachOk (.mk k ins) (.mk n0 m0 s0 c0 w0) [] := by
 intro i1 i2 l0
 refine GiveOk.iter (k := 45) (first := []) ?_
 intro id T m hok hm hyt hyf
 have hT : ∀ j, (T j).length = l0 := fun j => (hok j).1.1
 have hT_ : ∀ j, (T j).length = (T 0).length := fun j => (hT j).trans (hT 0).symm
 have hsB : ∀ j, (T j)[i1]? = some (.cells (encS (.mk k ins)).cells) := fun j => (hok j).1.2.hd
 have hvB : ∀ j, (T j)[i2]? = some (.cells (encV (.mk n0 m0 s0 c0 w0)).cells) := fun j => (hok j).1.2.tl.hd
 have hm0 : m = 0 := by simpa using hm
 refine mcalls_body Tryz.func45 rfl Tryz.ntmps45 (Nat.le_of_ble_eq_true rfl) ?_
 refine mwp_seq <| mwp_seq <| qR rfl <| qO rfl <| op_load_ref rfl rfl (by first | exact get_app (hsB _) | exact get_nil_app (get_app (hsB _))) ta24 rfl ?_
 refine qO rfl <| op_load_ref rfl rfl (by first | exact get_app (hvB _) | exact get_nil_app (get_app (hvB _))) ta30 rfl ?_
 refine wOps_op rfl (op_call rfl rfl rfl co46 ((None_spec (.mk k ins) (.mk n0 m0 s0 c0 w0) _).mono ?_))
 rintro _ _ ⟨rfl, rfl⟩
 have hno : noneF (.mk k ins) (.mk n0 m0 s0 c0 w0) = true := by unfold noneF; rw [bot_eq hs (Nat.le_refl _)]; exact decide_eq_true hb
 rw [hno]
 refine qN <| mwp_cond_t rfl (rfl) <| mwp_ret ?_
 exact ret_noneS (S' := T 0) (.inr rfl) Tryz.results45 (Nat.le_of_eq (hT_ _).symm) (hok _).2 ⟨rfl, by subst hm0; rfl⟩
theorem each_leaf3 (k : Int) (ins : List Sch) (hs : isF 16 (.mk 3 ins) = true) (n0 m0 : Int) (s0 : List Bs) (c0 : List (List Tk)) (hb : ¬ bottomF (.mk 3 ins) = .mk n0 m0 s0 c0 []) : EachOk (.mk 3 ins) (.mk n0 m0 s0 c0 []) (leavesF 3 (.mk n0 m0 s0 c0 [])) := by
 intro i1 i2 l0
 refine GiveOk.iter (k := 45) (first := []) ?_
 intro id T m hok hm hyt hyf
 have hT : ∀ j, (T j).length = l0 := fun j => (hok j).1.1
 have hT_ : ∀ j, (T j).length = (T 0).length := fun j => (hT j).trans (hT 0).symm
 have hsB : ∀ j, (T j)[i1]? = some (.cells (encS (.mk 3 ins)).cells) := fun j => (hok j).1.2.hd
 have hvB : ∀ j, (T j)[i2]? = some (.cells (encV (.mk n0 m0 s0 c0 [])).cells) := fun j => (hok j).1.2.tl.hd
 have hcall := (leaves3_give ins (.mk n0 m0 s0 c0 []) [] (l0 + 1)).use (id := id) (zs := (leavesF 3 (.mk n0 m0 s0 c0 [])).map fun p => [encV p]) (a := 0) (M := m) (T := T) (J := [.cells [.int .i64 0]]) (fun j => okP_app (hok j) rfl .nil (fun o ho => by simp at ho; subst ho; exact cl_int1 _ _ _)) (fun j y h => by rw [Nat.zero_add]; exact h) hyt hyf (Nat.zero_le _)
 rw [Nat.zero_add] at hcall
 refine mcalls_body Tryz.func45 rfl Tryz.ntmps45 (Nat.le_of_ble_eq_true rfl) ?_
 refine mwp_seq <| mwp_seq <| qR rfl <| qO rfl <| op_load_ref rfl rfl (by first | exact get_app (hsB _) | exact get_nil_app (get_app (hsB _))) ta24 rfl ?_
 refine qO rfl <| op_load_ref rfl rfl (by first | exact get_app (hvB _) | exact get_nil_app (get_app (hvB _))) ta30 rfl ?_
 refine wOps_op rfl (op_call rfl rfl rfl co46 ((None_spec (.mk 3 ins) (.mk n0 m0 s0 c0 []) _).mono ?_))
 rintro _ _ ⟨rfl, rfl⟩
 have hno : noneF (.mk 3 ins) (.mk n0 m0 s0 c0 []) = false := by unfold noneF; rw [bot_eq hs (Nat.le_refl _)]; exact decide_eq_false hb
 rw [hno]
 refine qN <| mwp_cond_f rfl (rfl) <| mwp_skip <| mwp_seq <| qR rfl <| qA rfl rfl rfl <| qN <| mwp_seq <| mwp_seq <| qR rfl <| qO rfl <| op_alloc' rfl zm3 rfl rfl <| qO rfl <| op_store' rfl rfl rfl rfl sz3 rfl rfl (Nat.le_of_ble_eq_true rfl) rfl <| qN <| mwp_block ?_
 show mwp _ _ _ _ _ _ _ (([] : MS) ++ (T 0 ++ [.cells [.int .i64 0]]))
 refine mwp_loopK (α := Nat) [(0, _), (1, _), (2, _)] (fun i => [(5, .ref ((T 0).length + 0) 0), (4, .bool true)]) (fun i => T 0 ++ [.cells [.int .i64 0]]) (fun i => True) (fun i => 0) (0) (.keep rfl (.keep rfl (.keep rfl (.nil)))) (.keep rfl (.keep rfl (.nil))) (trivial) (rfl) ?_
 rintro i _
 refine mwp_seq <| mwp_seq <| qR rfl <| qO rfl <| op_load_ref rfl rfl (get_nil_app ((own_get (hT_ _)).trans rfl)) ta3 rfl <| qF rfl rfl rfl fo30_4 <| qO rfl <| op_load_ref rfl rfl (by first | exact get_app (hvB _) | exact get_nil_app (get_app (hvB _))) ta28 rfl ?_
 refine qE rfl rfl Tryz.underlying28 rfl <| qC rfl rfl rfl rfl rfl <| qM rfl rfl rfl <| qS rfl <| qP rfl rfl rfl rfl <| qN <| mwp_cond_f rfl (rfl) <| mwp_exit <| mwp_seq <| qR rfl <| qF rfl rfl rfl fo30_4 <| qO rfl <| op_load_ref rfl rfl (by first | exact get_app (hvB _) | exact get_nil_app (get_app (hvB _))) ta28 rfl ?_
 refine qE rfl rfl Tryz.underlying28 rfl <| qC rfl rfl rfl rfl rfl <| qN <| mwp_cond_t rfl (rfl) <| qR rfl <| qO rfl <| op_load_ref rfl rfl (by first | exact get_app (hsB _) | exact get_nil_app (get_app (hsB _))) ta24 rfl ?_
 refine qO rfl <| op_load_ref rfl rfl (by first | exact get_app (hvB _) | exact get_nil_app (get_app (hvB _))) ta30 rfl ?_
 refine qM rfl rfl rfl ?_
 refine wOps_op rfl (op_call rfl rfl rfl co51 ((hcall).mono ?_))
 rintro _ _ ⟨rfl, rfl⟩
 refine qN ?_
 exact ret_noneS (S' := T (if ((leavesF 3 (.mk n0 m0 s0 c0 [])).map fun p => [encV p]).length ≤ m then ((leavesF 3 (.mk n0 m0 s0 c0 [])).map fun p => [encV p]).length else m + 1)) (.inl rfl) Tryz.results45 (Nat.le_of_eq (hT_ _).symm) (hok _).2 ⟨rfl, congrArg T (by split <;> split <;> omega)⟩
theorem each_leaf1 (k : Int) (hk3 : k ≠ 3) (hk7 : k ≠ 7) (ins : List Sch) (hs : isF 16 (.mk k ins) = true) (n0 m0 : Int) (s0 : List Bs) (c0 : List (List Tk)) (hb : ¬ bottomF (.mk k ins) = .mk n0 m0 s0 c0 []) : EachOk (.mk k ins) (.mk n0 m0 s0 c0 []) (leavesF k (.mk n0 m0 s0 c0 [])) := by
 intro i1 i2 l0
 refine GiveOk.iter (k := 45) (first := []) ?_
 intro id T m hok hm hyt hyf
 have hT : ∀ j, (T j).length = l0 := fun j => (hok j).1.1
 have hT_ : ∀ j, (T j).length = (T 0).length := fun j => (hT j).trans (hT 0).symm
 have hsB : ∀ j, (T j)[i1]? = some (.cells (encS (.mk k ins)).cells) := fun j => (hok j).1.2.hd
 have hvB : ∀ j, (T j)[i2]? = some (.cells (encV (.mk n0 m0 s0 c0 [])).cells) := fun j => (hok j).1.2.tl.hd
 have hcall := (leaves1_give k hk3 hk7 ins (.mk n0 m0 s0 c0 []) [] (l0 + 1)).use (id := id) (zs := (leavesF k (.mk n0 m0 s0 c0 [])).map fun p => [encV p]) (a := 0) (M := m) (T := T) (J := [.cells [.int .i64 0]]) (fun j => okP_app (hok j) rfl .nil (fun o ho => by simp at ho; subst ho; exact cl_int1 _ _ _)) (fun j y h => by rw [Nat.zero_add]; exact h) hyt hyf (Nat.zero_le _)
 rw [Nat.zero_add] at hcall
 refine mcalls_body Tryz.func45 rfl Tryz.ntmps45 (Nat.le_of_ble_eq_true rfl) ?_
 refine mwp_seq <| mwp_seq <| qR rfl <| qO rfl <| op_load_ref rfl rfl (by first | exact get_app (hsB _) | exact get_nil_app (get_app (hsB _))) ta24 rfl ?_
 refine qO rfl <| op_load_ref rfl rfl (by first | exact get_app (hvB _) | exact get_nil_app (get_app (hvB _))) ta30 rfl ?_
 refine wOps_op rfl (op_call rfl rfl rfl co46 ((None_spec (.mk k ins) (.mk n0 m0 s0 c0 []) _).mono ?_))
 rintro _ _ ⟨rfl, rfl⟩
 have hno : noneF (.mk k ins) (.mk n0 m0 s0 c0 []) = false := by unfold noneF; rw [bot_eq hs (Nat.le_refl _)]; exact decide_eq_false hb
 rw [hno]
 refine qN <| mwp_cond_f rfl (rfl) <| mwp_skip <| mwp_seq <| qR rfl <| qA rfl rfl rfl <| qN <| mwp_seq <| mwp_seq <| qR rfl <| qO rfl <| op_alloc' rfl zm3 rfl rfl <| qO rfl <| op_store' rfl rfl rfl rfl sz3 rfl rfl (Nat.le_of_ble_eq_true rfl) rfl <| qN <| mwp_block ?_
 show mwp _ _ _ _ _ _ _ (([] : MS) ++ (T 0 ++ [.cells [.int .i64 0]]))
 refine mwp_loopK (α := Nat) [(0, _), (1, _), (2, _)] (fun i => [(5, .ref ((T 0).length + 0) 0), (4, .bool true)]) (fun i => T 0 ++ [.cells [.int .i64 0]]) (fun i => True) (fun i => 0) (0) (.keep rfl (.keep rfl (.keep rfl (.nil)))) (.keep rfl (.keep rfl (.nil))) (trivial) (rfl) ?_
 rintro i _
 refine mwp_seq <| mwp_seq <| qR rfl <| qO rfl <| op_load_ref rfl rfl (get_nil_app ((own_get (hT_ _)).trans rfl)) ta3 rfl <| qF rfl rfl rfl fo30_4 <| qO rfl <| op_load_ref rfl rfl (by first | exact get_app (hvB _) | exact get_nil_app (get_app (hvB _))) ta28 rfl ?_
 refine qE rfl rfl Tryz.underlying28 rfl <| qC rfl rfl rfl rfl rfl <| qM rfl rfl rfl <| qS rfl <| qP rfl rfl rfl rfl <| qN <| mwp_cond_f rfl (rfl) <| mwp_exit <| mwp_seq <| qR rfl <| qF rfl rfl rfl fo30_4 <| qO rfl <| op_load_ref rfl rfl (by first | exact get_app (hvB _) | exact get_nil_app (get_app (hvB _))) ta28 rfl ?_
 refine qE rfl rfl Tryz.underlying28 rfl <| qC rfl rfl rfl rfl rfl <| qN <| mwp_cond_t rfl (rfl) <| qR rfl <| qO rfl <| op_load_ref rfl rfl (by first | exact get_app (hsB _) | exact get_nil_app (get_app (hsB _))) ta24 rfl ?_
 refine qO rfl <| op_load_ref rfl rfl (by first | exact get_app (hvB _) | exact get_nil_app (get_app (hvB _))) ta30 rfl ?_
 refine qM rfl rfl rfl ?_
 refine wOps_op rfl (op_call rfl rfl rfl co51 ((hcall).mono ?_))
 rintro _ _ ⟨rfl, rfl⟩
 refine qN ?_
 exact ret_noneS (S' := T (if ((leavesF k (.mk n0 m0 s0 c0 [])).map fun p => [encV p]).length ≤ m then ((leavesF k (.mk n0 m0 s0 c0 [])).map fun p => [encV p]).length else m + 1)) (.inl rfl) Tryz.results45 (Nat.le_of_eq (hT_ _).symm) (hok _).2 ⟨rfl, congrArg T (by split <;> split <;> omega)⟩
theorem each_map (t1 : Sch) (hs : isF 16 (.mk 4 [t1]) = true) (n0 m0 : Int) (s0 : List Bs) (c0 : List (List Tk)) (w0 : List Val) (hw0 : 0 < w0.length) (hw : w0.length ≤ 1000) (hsl : s0.length = w0.length) (hb : ¬ bottomF (.mk 4 [t1]) = .mk n0 m0 s0 c0 w0) (Y : Nat → List Val) (hit : ∀ i x, w0[i]? = some x → EachOk t1 x (Y i)) : EachOk (.mk 4 [t1]) (.mk n0 m0 s0 c0 w0) ((List.range w0.length).flatMap (fun i => (Y i).map fun p => Val.mk 0 0 [s0.getD i []] [] [p])) := by
 obtain ⟨k1, i1_⟩ := t1
 generalize hG : (fun i => (Y i).map fun p => Val.mk 0 0 [s0.getD i []] [] [p]) = G
 intro i1 i2 l0
 refine GiveOk.iter (k := 45) (first := []) ?_
 intro id T m hok hm hyt hyf
 have hT : ∀ j, (T j).length = l0 := fun j => (hok j).1.1
 have hT_ : ∀ j, (T j).length = (T 0).length := fun j => (hT j).trans (hT 0).symm
 have hsB : ∀ j, (T j)[i1]? = some (.cells (encS (.mk 4 [.mk k1 i1_])).cells) := fun j => (hok j).1.2.hd
 have hvB : ∀ j, (T j)[i2]? = some (.cells (encV (.mk n0 m0 s0 c0 w0)).cells) := fun j => (hok j).1.2.tl.hd
 have htot : (((List.range w0.length).flatMap G).map fun p => [encV p]).length = offG G w0.length := by rw [List.length_map]; rfl
 rw [htot] at hm ⊢
 have hcall : ∀ i, i < w0.length → offG G i ≤ m → MCalls Tryz.prog 48 [encS (.mk k1 i1_), encV (w0.getD i noV), .fn (.func 47) [] [.ref i2 0, .ref ((T 0).length + i) 0], .yld id] (T (offG G i) ++ OwnI i) fun v σ' => v = .bool (decide (offG G (i + 1) ≤ m)) ∧ σ' = T (tE (offG G) m (i + 1)) ++ OwnI i := by
  intro i hi ha
  obtain ⟨x, hx⟩ : ∃ x, w0[i]? = some x := ⟨_, List.getElem?_eq_getElem hi⟩
  obtain ⟨sx, hsx⟩ : ∃ x, s0[i]? = some x := ⟨_, List.getElem?_eq_getElem (by omega)⟩
  rw [show w0.getD i noV = x by simp [hx]]
  have hW := within_give (.mk k1 i1_) x (Y i) (fun p => .mk 0 0 [sx] [] [p]) 47 [.ref i2 0, .ref ((T 0).length + i) 0] [(i2, .cells (encV (.mk n0 m0 s0 c0 w0)).cells), ((T 0).length + i, .cells [.int .i64 (i : Int)])] co47 (hit i x hx) (fun p S' hS => mapAlone_spec n0 m0 s0 c0 w0 i sx hsx (by omega) p _ _ S' hS.hd hS.tl.hd) (l0 + (i + 1))
  exact give_round (i := i) (args := fun id => [encS (.mk k1 i1_), encV x, .fn (.func 47) [] [.ref i2 0, .ref ((T 0).length + i) 0], .yld id]) hW (by rw [← hG, List.map_map]; simp [Function.comp_def, hsx]) hok rfl (fun j => .cons (get_app (hvB j)) (.cons (getI (hT_ j)) .nil)) hi hyt hyf ha
 refine mcalls_body Tryz.func45 rfl Tryz.ntmps45 (Nat.le_of_ble_eq_true rfl) ?_
 refine mwp_seq <| mwp_seq <| qR rfl <| qO rfl <| op_load_ref rfl rfl (by first | exact get_app (hsB _) | exact get_nil_app (get_app (hsB _))) ta24 rfl ?_
 refine qO rfl <| op_load_ref rfl rfl (by first | exact get_app (hvB _) | exact get_nil_app (get_app (hvB _))) ta30 rfl ?_
 refine wOps_op rfl (op_call rfl rfl rfl co46 ((None_spec (.mk 4 [.mk k1 i1_]) (.mk n0 m0 s0 c0 w0) _).mono ?_))
 rintro _ _ ⟨rfl, rfl⟩
 have hno : noneF (.mk 4 [.mk k1 i1_]) (.mk n0 m0 s0 c0 w0) = false := by unfold noneF; rw [bot_eq hs (Nat.le_refl _)]; exact decide_eq_false hb
 rw [hno]
 refine qN <| mwp_cond_f rfl (rfl) <| mwp_skip <| mwp_seq <| qR rfl <| qA rfl rfl rfl <| qN <| mwp_seq <| mwp_seq <| qR rfl <| qO rfl <| op_alloc' rfl zm3 rfl rfl <| qO rfl <| op_store' rfl rfl rfl rfl sz3 rfl rfl (Nat.le_of_ble_eq_true rfl) rfl <| qN <| mwp_block ?_
 have ht0 : tE (offG G) m 0 = 0 := if_pos (Nat.zero_le _)
 show mwp _ _ _ _ _ _ _ (([] : MS) ++ (T 0 ++ OwnI 0))
 refine mwp_loopK (α := Nat) [(0, _), (1, _), (2, _)] (fun i => [(5, .ref ((T 0).length + i) 0), (4, .bool (decide (offG G i ≤ m)))]) (fun i => T (tE (offG G) m i) ++ OwnI i) (fun i => i ≤ w0.length) (fun i => w0.length - i) (0) (.keep rfl (.keep rfl (.keep rfl (.nil)))) (.keep rfl (.eq rfl ((congrArg MV.bool (decide_eq_true (Nat.zero_le _)).symm)) (.nil))) (Nat.zero_le _) (by show _ = T (tE (offG G) m 0) ++ OwnI 0; rw [ht0]) ?_
 rintro i hi
 refine mwp_seq <| mwp_seq <| qR rfl <| qO rfl <| op_load_ref rfl rfl (by first | exact getI (hT_ _) | exact get_nil_app (getI (hT_ _))) ta3 rfl ?_
 refine qF rfl rfl rfl fo30_4 <| qO rfl <| op_load_ref rfl rfl (by first | exact get_app (hvB _) | exact get_nil_app (get_app (hvB _))) ta28 rfl ?_
 refine qE rfl rfl Tryz.underlying28 rfl <| qC rfl rfl rfl rfl rfl <| qM rfl rfl rfl ?_
 refine wOps_case (fun h15 => ?_) (fun h15 => ?_)
 ·
  have hlt : i < w0.length := by have := of_decide_eq_true h15; rw [encVs_length] at this; omega
  obtain ⟨⟨n1, m1, s1, c1, w1⟩, hwx⟩ : ∃ x, w0[i]? = some x := ⟨_, List.getElem?_eq_getElem hlt⟩
  have hgd : w0.getD i noV = (.mk n1 m1 s1 c1 w1) := by simp [hwx]
  refine qM rfl rfl rfl <| qP rfl rfl rfl rfl <| qN ?_
  refine mwp_cond_split rfl (fun h17 => ?_) (fun h17 => ?_)
  ·
   have hgo : offG G i ≤ m := of_decide_eq_true h17
   have hcl_ := hcall i hlt hgo
   have hte : tE (offG G) m i = offG G i := if_pos hgo
   rw [hte]
   refine mwp_skip <| mwp_seq <| mwp_block <| mwp_seq <| qR rfl <| qF rfl rfl rfl fo24_0 <| qO rfl <| op_load_ref rfl rfl (by first | exact get_app (hsB _) | exact get_nil_app (get_app (hsB _))) ta3 rfl ?_
   refine qN <| mwp_block <| mwp_seq <| qR rfl <| qC rfl rfl rfl rfl (eqlQ rfl) <| qA rfl rfl rfl <| qN <| mwp_cond_t rfl (rfl) <| mwp_seq <| qR rfl <| qO rfl <| op_makeFunc rfl rfl rfl <| qA rfl rfl rfl <| qN ?_
   rw [hgd] at hcl_
   refine mwp_draw [11] [_, T (tE (offG G) m (i + 1)) ++ OwnI i] mo (by decide) rfl rfl rfl rfl ?_
   refine dOps_op rfl rfl (.cons (op_fieldAddr_ref rfl rfl fo24_1 ⟨rfl, rfl⟩) (.cons (op_fieldAddr_ref rfl rfl fo24_1 ⟨rfl, rfl⟩) (.nil))) <| dOps_op rfl rfl (.cons (op_load_ref rfl rfl (by first | exact get_app (hsB _) | exact get_nil_app (get_app (hsB _))) ta22 rfl ⟨rfl, rfl⟩) (.cons (op_load_ref rfl rfl (by first | exact get_app (hsB _) | exact get_nil_app (get_app (hsB _))) ta22 rfl ⟨rfl, rfl⟩) (.nil))) ?_
   refine dOps_op rfl rfl (.cons (op_indexAddr rfl Tryz.underlying22 sz24 (by decide) rfl rfl rfl (show _ = some (encS (.mk k1 i1_)) from rfl) ⟨rfl, rfl⟩) (.cons (op_indexAddr rfl Tryz.underlying22 sz24 (by decide) rfl rfl rfl (show _ = some (encS (.mk k1 i1_)) from rfl) ⟨rfl, rfl⟩) (.nil))) ?_
   refine dO rfl rfl rfl (op_load_sptr rfl rfl ta24 rfl ⟨rfl, rfl⟩) <| dOps_op rfl rfl (.cons (op_fieldAddr_ref rfl rfl fo30_4 ⟨rfl, rfl⟩) (.cons (op_fieldAddr_ref rfl rfl fo30_4 ⟨rfl, rfl⟩) (.nil))) <| dOps_op rfl rfl (.cons (op_load_ref rfl rfl (by first | exact get_app (hvB _) | exact get_nil_app (get_app (hvB _))) ta28 rfl ⟨rfl, rfl⟩) (.cons (op_load_ref rfl rfl (by first | exact get_app (hvB _) | exact get_nil_app (get_app (hvB _))) ta28 rfl ⟨rfl, rfl⟩) (.nil))) ?_
   refine dOps_op rfl rfl (.cons (op_load_ref rfl rfl (by first | exact getI (hT_ _) | exact get_nil_app (getI (hT_ _))) ta3 rfl ⟨rfl, rfl⟩) (.cons (op_load_ref rfl rfl (by first | exact getI (hT_ _) | exact get_nil_app (getI (hT_ _))) ta3 rfl ⟨rfl, rfl⟩) (.nil))) ?_
   refine dOps_op rfl rfl (.cons (op_indexAddr rfl Tryz.underlying28 sz30 (by decide) rfl rfl rfl (encVs_get hwx) ⟨rfl, rfl⟩) (.cons (op_indexAddr rfl Tryz.underlying28 sz30 (by decide) rfl rfl rfl (encVs_get hwx) ⟨rfl, rfl⟩) (.nil))) ?_
   refine dO rfl rfl rfl (op_load_sptr rfl rfl ta30 rfl ⟨rfl, rfl⟩) <| dO rfl rfl rfl (op_move rfl rfl ⟨rfl, rfl⟩) <| dO rfl rfl rfl (op_move rfl rfl ⟨rfl, rfl⟩) <| dOps_eff rfl rfl rfl rfl (op_call rfl rfl rfl co48 (hcl_)) <| dO rfl rfl rfl (op_assign rfl rfl ⟨rfl, rfl⟩) <| dOps_nil <| mwp_seq <| mwp_seq <| qR rfl <| qO rfl <| op_load_ref rfl rfl (by first | exact getI (hT_ _) | exact get_nil_app (getI (hT_ _))) ta3 rfl ?_
   refine qN <| qR rfl <| qO rfl <| op_alloc rfl zm3 ?_
   show wOps _ _ _ _ _ _ (T (tE (offG G) m (i + 1)) ++ OwnI i ++ [.cells [.int .i64 0]])
   rw [List.append_assoc, show (T (tE (offG G) m (i + 1)) ++ OwnI i).length = (T 0).length + (i + 1) from lenX (hT_ _)]
   refine qO rfl <| op_store (id := (T 0).length + (i + 1)) rfl rfl rfl (by exact getX (hT_ _)) sz3 rfl rfl (Nat.le_of_ble_eq_true rfl) ?_
   rw [setX (hT_ _)]
   refine qN <| qR rfl <| qO rfl <| op_load_ref rfl rfl (by exact getX (hT_ _)) ta3 rfl ?_
   refine qO rfl <| op_arith rfl rfl rfl (wadd (a := i) (b := 1) rfl (by omega)) ?_
   refine qO rfl <| op_store (id := (T 0).length + (i + 1)) rfl rfl rfl (by exact getX (hT_ _)) sz3 rfl rfl (Nat.le_of_ble_eq_true rfl) ?_
   rw [setX (hT_ _)]
   refine qN ?_
   refine ⟨i + 1, by omega, by omega, by rw [own_succ]; rfl, (.keep rfl (.keep rfl (.keep rfl (.nil)))), (.eq rfl (rfl) (.eq rfl (rfl) (.nil)))⟩
  ·
   have hno2 : ¬ offG G i ≤ m := of_decide_eq_false h17
   have hofl := off_le G hi
   refine mwp_exit <| mwp_seq <| qR rfl <| qF rfl rfl rfl fo30_4 <| qO rfl <| op_load_ref rfl rfl (by first | exact get_app (hvB _) | exact get_nil_app (get_app (hvB _))) ta28 rfl ?_
   refine qE rfl rfl Tryz.underlying28 rfl <| qC rfl rfl rfl rfl (eqlN (by rw [encVs_length]; omega)) ?_
   refine qN <| mwp_cond_f rfl (rfl) <| mwp_skip ?_
   exact ret_noneS (S' := T (tE (offG G) m i)) (.inl rfl) Tryz.results45 (Nat.le_of_eq (hT_ _).symm) (hok _).2 ⟨rfl, congrArg T (by unfold tE; split <;> split <;> omega)⟩
 ·
  have hge : i = w0.length := by have := of_decide_eq_false h15; rw [encVs_length] at this; omega
  have hot : offG G i = offG G w0.length := by rw [hge]
  refine qS rfl <| qP rfl rfl rfl rfl <| qN <| mwp_cond_f rfl (rfl) <| mwp_exit <| mwp_seq <| qR rfl <| qF rfl rfl rfl fo30_4 <| qO rfl <| op_load_ref rfl rfl (by first | exact get_app (hvB _) | exact get_nil_app (get_app (hvB _))) ta28 rfl ?_
  refine qE rfl rfl Tryz.underlying28 rfl <| qC rfl rfl rfl rfl (eqlN (by rw [encVs_length]; omega)) ?_
  refine qN <| mwp_cond_f rfl (rfl) <| mwp_skip ?_
  exact ret_noneS (S' := T (tE (offG G) m i)) (.inl rfl) Tryz.results45 (Nat.le_of_eq (hT_ _).symm) (hok _).2 ⟨rfl, congrArg T (by unfold tE; split <;> split <;> omega)⟩
theorem each_pair (t1 t2 : Sch) (hs : isF 16 (.mk 5 [t1, t2]) = true) (h1 : isF 16 t1 = true) (h2 : isF 16 t2 = true) (n0 m0 : Int) (s0 : List Bs) (c0 : List (List Tk)) (x0 x1 : Val) (w0 : List Val) (hw0 : w0 = [x0, x1]) (hb : ¬ bottomF (.mk 5 [t1, t2]) = .mk n0 m0 s0 c0 w0) (Y : Nat → List Val) (hit0 : EachOk t1 x0 (Y 0)) (hit1 : EachOk t2 x1 (Y 1)) : EachOk (.mk 5 [t1, t2]) (.mk n0 m0 s0 c0 w0) ((List.range w0.length).flatMap (fun i => (Y i).map fun p => Val.mk 0 0 [] [] ((bottomL [t1, t2]).set i p))) := by
 obtain ⟨k1, i1_⟩ := t1
 obtain ⟨k2, i2_⟩ := t2
 obtain ⟨na, ma, sa, ca, wa⟩ := x0
 obtain ⟨nb, mb, sb, cb, wb⟩ := x1
 generalize hG : (fun i => (Y i).map fun p => Val.mk 0 0 [] [] ((bottomL [(.mk k1 i1_), (.mk k2 i2_)]).set i p)) = G
 intro i1 i2 l0
 refine GiveOk.iter (k := 45) (first := []) ?_
 intro id T m hok hm hyt hyf
 have hT : ∀ j, (T j).length = l0 := fun j => (hok j).1.1
 have hT_ : ∀ j, (T j).length = (T 0).length := fun j => (hT j).trans (hT 0).symm
 have hsB : ∀ j, (T j)[i1]? = some (.cells (encS (.mk 5 [.mk k1 i1_, .mk k2 i2_])).cells) := fun j => (hok j).1.2.hd
 have hvB : ∀ j, (T j)[i2]? = some (.cells (encV (.mk n0 m0 s0 c0 w0)).cells) := fun j => (hok j).1.2.tl.hd
 have htot : (((List.range w0.length).flatMap G).map fun p => [encV p]).length = offG G w0.length := by rw [List.length_map]; rfl
 rw [htot] at hm ⊢
 have hcall : ∀ i, i < w0.length → offG G i ≤ m → MCalls Tryz.prog 49 [encS (.mk 5 [.mk k1 i1_, .mk k2 i2_]), encV (.mk n0 m0 s0 c0 w0), .int .i64 (i : Int), .yld id] (T (offG G i) ++ OwnI i) fun v σ' => v = .bool (decide (offG G (i + 1) ≤ m)) ∧ σ' = T (tE (offG G) m (i + 1)) ++ OwnI i := by
  intro i hi ha
  have h01 : i = 0 ∨ i = 1 := by rw [hw0] at hi; simp at hi; omega
  have hvv : encV (.mk n0 m0 s0 c0 w0) = encV (.mk n0 m0 s0 c0 [.mk na ma sa ca wa, .mk nb mb sb cb wb]) := by rw [hw0]
  rw [hvv]
  rcases h01 with rfl | rfl
  ·exact give_round (i := 0) (args := fun id => [encS (.mk 5 [.mk k1 i1_, .mk k2 i2_]), encV (.mk n0 m0 s0 c0 [.mk na ma sa ca wa, .mk nb mb sb cb wb]), .int .i64 0, .yld id]) (paired0_give (.mk k1 i1_) (.mk k2 i2_) hs h1 h2 n0 m0 s0 c0 (.mk na ma sa ca wa) (.mk nb mb sb cb wb) (Y 0) hit0 [] (l0 + 1)) (by rw [← hG, List.map_map]; simp [Function.comp_def, bottomL]) hok rfl (fun j => .nil) hi hyt hyf ha
  ·exact give_round (i := 1) (args := fun id => [encS (.mk 5 [.mk k1 i1_, .mk k2 i2_]), encV (.mk n0 m0 s0 c0 [.mk na ma sa ca wa, .mk nb mb sb cb wb]), .int .i64 1, .yld id]) (paired1_give (.mk k1 i1_) (.mk k2 i2_) hs h1 h2 n0 m0 s0 c0 (.mk na ma sa ca wa) (.mk nb mb sb cb wb) (Y 1) hit1 [] (l0 + 2)) (by rw [← hG, List.map_map]; simp [Function.comp_def, bottomL]) hok rfl (fun j => .nil) hi hyt hyf ha
 have hw : w0.length = 2 := by rw [hw0]; rfl
 refine mcalls_body Tryz.func45 rfl Tryz.ntmps45 (Nat.le_of_ble_eq_true rfl) ?_
 refine mwp_seq <| mwp_seq <| qR rfl <| qO rfl <| op_load_ref rfl rfl (by first | exact get_app (hsB _) | exact get_nil_app (get_app (hsB _))) ta24 rfl ?_
 refine qO rfl <| op_load_ref rfl rfl (by first | exact get_app (hvB _) | exact get_nil_app (get_app (hvB _))) ta30 rfl ?_
 refine wOps_op rfl (op_call rfl rfl rfl co46 ((None_spec (.mk 5 [.mk k1 i1_, .mk k2 i2_]) (.mk n0 m0 s0 c0 w0) _).mono ?_))
 rintro _ _ ⟨rfl, rfl⟩
 have hno : noneF (.mk 5 [.mk k1 i1_, .mk k2 i2_]) (.mk n0 m0 s0 c0 w0) = false := by unfold noneF; rw [bot_eq hs (Nat.le_refl _)]; exact decide_eq_false hb
 rw [hno]
 refine qN <| mwp_cond_f rfl (rfl) <| mwp_skip <| mwp_seq <| qR rfl <| qA rfl rfl rfl <| qN <| mwp_seq <| mwp_seq <| qR rfl <| qO rfl <| op_alloc' rfl zm3 rfl rfl <| qO rfl <| op_store' rfl rfl rfl rfl sz3 rfl rfl (Nat.le_of_ble_eq_true rfl) rfl <| qN <| mwp_block ?_
 have ht0 : tE (offG G) m 0 = 0 := if_pos (Nat.zero_le _)
 show mwp _ _ _ _ _ _ _ (([] : MS) ++ (T 0 ++ OwnI 0))
 refine mwp_loopK (α := Nat) [(0, _), (1, _), (2, _)] (fun i => [(5, .ref ((T 0).length + i) 0), (4, .bool (decide (offG G i ≤ m)))]) (fun i => T (tE (offG G) m i) ++ OwnI i) (fun i => i ≤ w0.length) (fun i => w0.length - i) (0) (.keep rfl (.keep rfl (.keep rfl (.nil)))) (.keep rfl (.eq rfl ((congrArg MV.bool (decide_eq_true (Nat.zero_le _)).symm)) (.nil))) (Nat.zero_le _) (by show _ = T (tE (offG G) m 0) ++ OwnI 0; rw [ht0]) ?_
 rintro i hi
 refine mwp_seq <| mwp_seq <| qR rfl <| qO rfl <| op_load_ref rfl rfl (by first | exact getI (hT_ _) | exact get_nil_app (getI (hT_ _))) ta3 rfl ?_
 refine qF rfl rfl rfl fo30_4 <| qO rfl <| op_load_ref rfl rfl (by first | exact get_app (hvB _) | exact get_nil_app (get_app (hvB _))) ta28 rfl ?_
 refine qE rfl rfl Tryz.underlying28 rfl <| qC rfl rfl rfl rfl rfl <| qM rfl rfl rfl ?_
 refine wOps_case (fun h15 => ?_) (fun h15 => ?_)
 ·
  have hlt : i < w0.length := by have := of_decide_eq_true h15; rw [encVs_length] at this; omega
  refine qM rfl rfl rfl <| qP rfl rfl rfl rfl <| qN ?_
  refine mwp_cond_split rfl (fun h17 => ?_) (fun h17 => ?_)
  ·
   have hgo : offG G i ≤ m := of_decide_eq_true h17
   have hcl_ := hcall i hlt hgo
   have hte : tE (offG G) m i = offG G i := if_pos hgo
   rw [hte]
   refine mwp_skip <| mwp_seq <| mwp_block <| mwp_seq <| qR rfl <| qF rfl rfl rfl fo24_0 <| qO rfl <| op_load_ref rfl rfl (by first | exact get_app (hsB _) | exact get_nil_app (get_app (hsB _))) ta3 rfl ?_
   refine qN <| mwp_block <| mwp_seq <| qR rfl <| qC rfl rfl rfl rfl (eqlN (by decide)) ?_
   refine qA rfl rfl rfl <| qN <| mwp_cond_f rfl (rfl) <| mwp_seq <| qR rfl <| qC rfl rfl rfl rfl (eqlQ rfl) <| qA rfl rfl rfl <| qN <| mwp_cond_t rfl (rfl) <| qR rfl <| qO rfl <| op_load_ref rfl rfl (by first | exact get_app (hsB _) | exact get_nil_app (get_app (hsB _))) ta24 rfl ?_
   refine qO rfl <| op_load_ref rfl rfl (by first | exact get_app (hvB _) | exact get_nil_app (get_app (hvB _))) ta30 rfl ?_
   refine qO rfl <| op_load_ref rfl rfl (by first | exact getI (hT_ _) | exact get_nil_app (getI (hT_ _))) ta3 rfl ?_
   refine qM rfl rfl rfl ?_
   refine wOps_op rfl (op_call rfl rfl rfl co49 ((hcl_).mono ?_))
   rintro _ _ ⟨rfl, rfl⟩
   refine qA rfl rfl rfl <| qN <| mwp_seq <| mwp_seq <| qR rfl <| qO rfl <| op_load_ref rfl rfl (by first | exact getI (hT_ _) | exact get_nil_app (getI (hT_ _))) ta3 rfl ?_
   refine qN <| qR rfl <| qO rfl <| op_alloc rfl zm3 ?_
   show wOps _ _ _ _ _ _ (T (tE (offG G) m (i + 1)) ++ OwnI i ++ [.cells [.int .i64 0]])
   rw [List.append_assoc, show (T (tE (offG G) m (i + 1)) ++ OwnI i).length = (T 0).length + (i + 1) from lenX (hT_ _)]
   refine qO rfl <| op_store (id := (T 0).length + (i + 1)) rfl rfl rfl (by exact getX (hT_ _)) sz3 rfl rfl (Nat.le_of_ble_eq_true rfl) ?_
   rw [setX (hT_ _)]
   refine qN <| qR rfl <| qO rfl <| op_load_ref rfl rfl (by exact getX (hT_ _)) ta3 rfl ?_
   refine qO rfl <| op_arith rfl rfl rfl (wadd (a := i) (b := 1) rfl (by omega)) ?_
   refine qO rfl <| op_store (id := (T 0).length + (i + 1)) rfl rfl rfl (by exact getX (hT_ _)) sz3 rfl rfl (Nat.le_of_ble_eq_true rfl) ?_
   rw [setX (hT_ _)]
   refine qN ?_
   refine ⟨i + 1, by omega, by omega, by rw [own_succ]; rfl, (.keep rfl (.keep rfl (.keep rfl (.nil)))), (.eq rfl (rfl) (.eq rfl (rfl) (.nil)))⟩
  ·
   have hno2 : ¬ offG G i ≤ m := of_decide_eq_false h17
   have hofl := off_le G hi
   refine mwp_exit <| mwp_seq <| qR rfl <| qF rfl rfl rfl fo30_4 <| qO rfl <| op_load_ref rfl rfl (by first | exact get_app (hvB _) | exact get_nil_app (get_app (hvB _))) ta28 rfl ?_
   refine qE rfl rfl Tryz.underlying28 rfl <| qC rfl rfl rfl rfl (eqlN (by rw [encVs_length]; omega)) ?_
   refine qN <| mwp_cond_f rfl (rfl) <| mwp_skip ?_
   exact ret_noneS (S' := T (tE (offG G) m i)) (.inl rfl) Tryz.results45 (Nat.le_of_eq (hT_ _).symm) (hok _).2 ⟨rfl, congrArg T (by unfold tE; split <;> split <;> omega)⟩
 ·
  have hge : i = w0.length := by have := of_decide_eq_false h15; rw [encVs_length] at this; omega
  have hot : offG G i = offG G w0.length := by rw [hge]
  refine qS rfl <| qP rfl rfl rfl rfl <| qN <| mwp_cond_f rfl (rfl) <| mwp_exit <| mwp_seq <| qR rfl <| qF rfl rfl rfl fo30_4 <| qO rfl <| op_load_ref rfl rfl (by first | exact get_app (hvB _) | exact get_nil_app (get_app (hvB _))) ta28 rfl ?_
  refine qE rfl rfl Tryz.underlying28 rfl <| qC rfl rfl rfl rfl (eqlN (by rw [encVs_length]; omega)) ?_
  refine qN <| mwp_cond_f rfl (rfl) <| mwp_skip ?_
  exact ret_noneS (S' := T (tE (offG G) m i)) (.inl rfl) Tryz.results45 (Nat.le_of_eq (hT_ _).symm) (hok _).2 ⟨rfl, congrArg T (by unfold tE; split <;> split <;> omega)⟩
theorem each_cause (k : Int) (hk4 : k ≠ 4) (hk5 : k ≠ 5) (t1 : Sch) (hs : isF 16 (.mk k [t1]) = true) (h1 : isF 16 t1 = true) (n0 m0 : Int) (s0 : List Bs) (c0 : List (List Tk)) (w0 : List Val) (hw0 : 0 < w0.length) (hw : w0.length ≤ 1000) (hcl : c0.length = w0.length) (hb : ¬ bottomF (.mk k [t1]) = .mk n0 m0 s0 c0 w0) (Y : Nat → List Val) (hit : ∀ i x, w0[i]? = some x → EachOk t1 x (Y i)) : EachOk (.mk k [t1]) (.mk n0 m0 s0 c0 w0) ((List.range w0.length).flatMap (fun i => (innerF (bottomF t1) (fun _ => Y i) (w0.getD i noV)).map fun p => Val.mk 0 0 [] [c0.getD i []] [p])) := by
 obtain ⟨k1, i1_⟩ := t1
 generalize hG : (fun i => (innerF (bottomF (.mk k1 i1_)) (fun _ => Y i) (w0.getD i noV)).map fun p => Val.mk 0 0 [] [c0.getD i []] [p]) = G
 intro i1 i2 l0
 refine GiveOk.iter (k := 45) (first := []) ?_
 intro id T m hok hm hyt hyf
 have hT : ∀ j, (T j).length = l0 := fun j => (hok j).1.1
 have hT_ : ∀ j, (T j).length = (T 0).length := fun j => (hT j).trans (hT 0).symm
 have hsB : ∀ j, (T j)[i1]? = some (.cells (encS (.mk k [.mk k1 i1_])).cells) := fun j => (hok j).1.2.hd
 have hvB : ∀ j, (T j)[i2]? = some (.cells (encV (.mk n0 m0 s0 c0 w0)).cells) := fun j => (hok j).1.2.tl.hd
 have htot : (((List.range w0.length).flatMap G).map fun p => [encV p]).length = offG G w0.length := by rw [List.length_map]; rfl
 rw [htot] at hm ⊢
 have hcall : ∀ i, i < w0.length → offG G i ≤ m → MCalls Tryz.prog 50 [encS (.mk k [.mk k1 i1_]), encV (.mk n0 m0 s0 c0 w0), .int .i64 (i : Int), .yld id] (T (offG G i) ++ OwnI i) fun v σ' => v = .bool (decide (offG G (i + 1) ≤ m)) ∧ σ' = T (tE (offG G) m (i + 1)) ++ OwnI i := by
  intro i hi ha
  obtain ⟨x, hx⟩ : ∃ x, w0[i]? = some x := ⟨_, List.getElem?_eq_getElem hi⟩
  obtain ⟨cx, hcx⟩ : ∃ x, c0[i]? = some x := ⟨_, List.getElem?_eq_getElem (by omega)⟩
  exact give_round (i := i) (args := fun id => [encS (.mk k [.mk k1 i1_]), encV (.mk n0 m0 s0 c0 w0), .int .i64 (i : Int), .yld id]) (sib_give k (.mk k1 i1_) h1 n0 m0 s0 c0 w0 i x cx hx hcx (by omega) (Y i) (hit i x hx) [] (l0 + (i + 1))) (by rw [← hG, List.map_map]; simp [Function.comp_def, hx, hcx, innerF]) hok rfl (fun j => .nil) hi hyt hyf ha
 refine mcalls_body Tryz.func45 rfl Tryz.ntmps45 (Nat.le_of_ble_eq_true rfl) ?_
 refine mwp_seq <| mwp_seq <| qR rfl <| qO rfl <| op_load_ref rfl rfl (by first | exact get_app (hsB _) | exact get_nil_app (get_app (hsB _))) ta24 rfl ?_
 refine qO rfl <| op_load_ref rfl rfl (by first | exact get_app (hvB _) | exact get_nil_app (get_app (hvB _))) ta30 rfl ?_
 refine wOps_op rfl (op_call rfl rfl rfl co46 ((None_spec (.mk k [.mk k1 i1_]) (.mk n0 m0 s0 c0 w0) _).mono ?_))
 rintro _ _ ⟨rfl, rfl⟩
 have hno : noneF (.mk k [.mk k1 i1_]) (.mk n0 m0 s0 c0 w0) = false := by unfold noneF; rw [bot_eq hs (Nat.le_refl _)]; exact decide_eq_false hb
 rw [hno]
 refine qN <| mwp_cond_f rfl (rfl) <| mwp_skip <| mwp_seq <| qR rfl <| qA rfl rfl rfl <| qN <| mwp_seq <| mwp_seq <| qR rfl <| qO rfl <| op_alloc' rfl zm3 rfl rfl <| qO rfl <| op_store' rfl rfl rfl rfl sz3 rfl rfl (Nat.le_of_ble_eq_true rfl) rfl <| qN <| mwp_block ?_
 have ht0 : tE (offG G) m 0 = 0 := if_pos (Nat.zero_le _)
 show mwp _ _ _ _ _ _ _ (([] : MS) ++ (T 0 ++ OwnI 0))
 refine mwp_loopK (α := Nat) [(0, _), (1, _), (2, _)] (fun i => [(5, .ref ((T 0).length + i) 0), (4, .bool (decide (offG G i ≤ m)))]) (fun i => T (tE (offG G) m i) ++ OwnI i) (fun i => i ≤ w0.length) (fun i => w0.length - i) (0) (.keep rfl (.keep rfl (.keep rfl (.nil)))) (.keep rfl (.eq rfl ((congrArg MV.bool (decide_eq_true (Nat.zero_le _)).symm)) (.nil))) (Nat.zero_le _) (by show _ = T (tE (offG G) m 0) ++ OwnI 0; rw [ht0]) ?_
 rintro i hi
 refine mwp_seq <| mwp_seq <| qR rfl <| qO rfl <| op_load_ref rfl rfl (by first | exact getI (hT_ _) | exact get_nil_app (getI (hT_ _))) ta3 rfl ?_
 refine qF rfl rfl rfl fo30_4 <| qO rfl <| op_load_ref rfl rfl (by first | exact get_app (hvB _) | exact get_nil_app (get_app (hvB _))) ta28 rfl ?_
 refine qE rfl rfl Tryz.underlying28 rfl <| qC rfl rfl rfl rfl rfl <| qM rfl rfl rfl ?_
 refine wOps_case (fun h15 => ?_) (fun h15 => ?_)
 ·
  have hlt : i < w0.length := by have := of_decide_eq_true h15; rw [encVs_length] at this; omega
  refine qM rfl rfl rfl <| qP rfl rfl rfl rfl <| qN ?_
  refine mwp_cond_split rfl (fun h17 => ?_) (fun h17 => ?_)
  ·
   have hgo : offG G i ≤ m := of_decide_eq_true h17
   have hcl_ := hcall i hlt hgo
   have hte : tE (offG G) m i = offG G i := if_pos hgo
   rw [hte]
   refine mwp_skip <| mwp_seq <| mwp_block <| mwp_seq <| qR rfl <| qF rfl rfl rfl fo24_0 <| qO rfl <| op_load_ref rfl rfl (by first | exact get_app (hsB _) | exact get_nil_app (get_app (hsB _))) ta3 rfl ?_
   refine qN <| mwp_block <| mwp_seq <| qR rfl <| qC rfl rfl rfl rfl (eqlN hk4) <| qA rfl rfl rfl <| qN <| mwp_cond_f rfl (rfl) <| mwp_seq <| qR rfl <| qC rfl rfl rfl rfl (eqlN hk5) <| qA rfl rfl rfl <| qN <| mwp_cond_f rfl (rfl) <| qR rfl <| qO rfl <| op_load_ref rfl rfl (by first | exact get_app (hsB _) | exact get_nil_app (get_app (hsB _))) ta24 rfl ?_
   refine qO rfl <| op_load_ref rfl rfl (by first | exact get_app (hvB _) | exact get_nil_app (get_app (hvB _))) ta30 rfl ?_
   refine qO rfl <| op_load_ref rfl rfl (by first | exact getI (hT_ _) | exact get_nil_app (getI (hT_ _))) ta3 rfl ?_
   refine qM rfl rfl rfl ?_
   refine wOps_op rfl (op_call rfl rfl rfl co50 ((hcl_).mono ?_))
   rintro _ _ ⟨rfl, rfl⟩
   refine qA rfl rfl rfl <| qN <| mwp_seq <| mwp_seq <| qR rfl <| qO rfl <| op_load_ref rfl rfl (by first | exact getI (hT_ _) | exact get_nil_app (getI (hT_ _))) ta3 rfl ?_
   refine qN <| qR rfl <| qO rfl <| op_alloc rfl zm3 ?_
   show wOps _ _ _ _ _ _ (T (tE (offG G) m (i + 1)) ++ OwnI i ++ [.cells [.int .i64 0]])
   rw [List.append_assoc, show (T (tE (offG G) m (i + 1)) ++ OwnI i).length = (T 0).length + (i + 1) from lenX (hT_ _)]
   refine qO rfl <| op_store (id := (T 0).length + (i + 1)) rfl rfl rfl (by exact getX (hT_ _)) sz3 rfl rfl (Nat.le_of_ble_eq_true rfl) ?_
   rw [setX (hT_ _)]
   refine qN <| qR rfl <| qO rfl <| op_load_ref rfl rfl (by exact getX (hT_ _)) ta3 rfl ?_
   refine qO rfl <| op_arith rfl rfl rfl (wadd (a := i) (b := 1) rfl (by omega)) ?_
   refine qO rfl <| op_store (id := (T 0).length + (i + 1)) rfl rfl rfl (by exact getX (hT_ _)) sz3 rfl rfl (Nat.le_of_ble_eq_true rfl) ?_
   rw [setX (hT_ _)]
   refine qN ?_
   refine ⟨i + 1, by omega, by omega, by rw [own_succ]; rfl, (.keep rfl (.keep rfl (.keep rfl (.nil)))), (.eq rfl (rfl) (.eq rfl (rfl) (.nil)))⟩
  ·
   have hno2 : ¬ offG G i ≤ m := of_decide_eq_false h17
   have hofl := off_le G hi
   refine mwp_exit <| mwp_seq <| qR rfl <| qF rfl rfl rfl fo30_4 <| qO rfl <| op_load_ref rfl rfl (by first | exact get_app (hvB _) | exact get_nil_app (get_app (hvB _))) ta28 rfl ?_
   refine qE rfl rfl Tryz.underlying28 rfl <| qC rfl rfl rfl rfl (eqlN (by rw [encVs_length]; omega)) ?_
   refine qN <| mwp_cond_f rfl (rfl) <| mwp_skip ?_
   exact ret_noneS (S' := T (tE (offG G) m i)) (.inl rfl) Tryz.results45 (Nat.le_of_eq (hT_ _).symm) (hok _).2 ⟨rfl, congrArg T (by unfold tE; split <;> split <;> omega)⟩
 ·
  have hge : i = w0.length := by have := of_decide_eq_false h15; rw [encVs_length] at this; omega
  have hot : offG G i = offG G w0.length := by rw [hge]
  refine qS rfl <| qP rfl rfl rfl rfl <| qN <| mwp_cond_f rfl (rfl) <| mwp_exit <| mwp_seq <| qR rfl <| qF rfl rfl rfl fo30_4 <| qO rfl <| op_load_ref rfl rfl (by first | exact get_app (hvB _) | exact get_nil_app (get_app (hvB _))) ta28 rfl ?_
  refine qE rfl rfl Tryz.underlying28 rfl <| qC rfl rfl rfl rfl (eqlN (by rw [encVs_length]; omega)) ?_
  refine qN <| mwp_cond_f rfl (rfl) <| mwp_skip ?_
  exact ret_noneS (S' := T (tE (offG G) m i)) (.inl rfl) Tryz.results45 (Nat.le_of_eq (hT_ _).symm) (hok _).2 ⟨rfl, congrArg T (by unfold tE; split <;> split <;> omega)⟩
end Go.Proofs.YtnfcnpdpfgcchaaGreat
end
section
set_option linter.unusedVariables false
set_option linter.unusedSimpArgs false
set_option maxRecDepth 20000
set_option maxHeartbeats 400000
namespace Go.Proofs.YtnfcnpdpfgcchaaGreat
open Go Go.MV
theorem getD_nV {w : List Val} {i : Nat} {x : Val} (h : w[i]? = some x) : w.getD i noV = x := by simp [h]
theorem each_ok : ∀ (d : Nat) (s : Sch), isF d s = true → d ≤ 16 → noK7 d s = true → ∀ v : Val, isVF s v = true → EachOk s v (partsD d s v)
 | 0, s, h => by simp [isF] at h
 | d + 1, .mk k ins, h => by
  intro hd h7 ⟨n, m, s, c, w⟩ hv
  have hs : isF 16 (.mk k ins) = true := isF_le hd h
  rw [isF] at h
  simp only [Bool.and_eq_true, List.all_eq_true, beq_iff_eq] at h
  rw [noK7, Bool.and_eq_true, List.all_eq_true] at h7
  have hk7 : k ≠ 7 := by simpa using h7.1
  by_cases hb : bottomF (.mk k ins) = .mk n m s c w
  ·rw [parts_none hb]
   exact each_none k ins hs n m s c w hb
  by_cases hw : w = []
  ·subst hw
   rw [parts_leaf hb]
   by_cases hk3 : k = 3
   ·subst hk3
    exact each_leaf3 3 ins hs n m s c hb
   ·exact each_leaf1 k hk3 hk7 ins hs n m s c hb
  have hw0 : 0 < w.length := List.length_pos_iff.2 hw
  rw [parts_in hb hw]
  rcases k8_of h.1 with rfl | rfl | rfl | rfl | rfl | rfl | rfl | rfl
  ·rw [isVF_mk 1] at hv
   simp [bareF, numsK, textsK, clocksK, valuesK, Val.nv, Val.mv, Val.sv, Val.cv, Val.vv] at hv
   exact absurd hv.1.1.2 hw
  ·rw [isVF_mk 2] at hv
   simp [bareF, numsK, textsK, clocksK, valuesK, Val.nv, Val.mv, Val.sv, Val.cv, Val.vv] at hv
   exact absurd hv.1.1.1.2 hw
  ·rw [isVF_mk 3] at hv
   simp [bareF, numsK, textsK, clocksK, valuesK, Val.nv, Val.mv, Val.sv, Val.cv, Val.vv] at hv
   exact absurd hv.1.1.1.2 hw
  ·obtain ⟨t1, rfl⟩ := one_ins h.1 (by decide)
   rw [isVF_mk 4] at hv
   simp [bareF, numsK, textsK, clocksK, valuesK, Val.nv, Val.mv, Val.sv, Val.cv, Val.vv, isVL] at hv
   obtain ⟨⟨⟨⟨⟨⟨_, _⟩, _⟩, hwl⟩, _⟩, _, h5⟩, h6⟩ := (show (((((n = 0 ∧ m = 0) ∧ c = []) ∧ w.length ≤ 40) ∧ c.length ≤ 40) ∧ (isRowF s = true ∧ s.length = w.length)) ∧ ∀ (x : Val), x ∈ w → isVF t1 x = true ∧ noneF t1 x = false from ⟨⟨hv.1, hv.2.1⟩, hv.2.2⟩)
   exact each_map t1 hs n m s c w hw0 (by omega) h5 hb (fun i => partsD d t1 (w.getD i noV)) fun i x hx => by
    show EachOk t1 x (partsD d t1 (w.getD i noV))
    rw [getD_nV hx]
    exact each_ok d t1 (h.2 _ (by simp)) (by omega) (h7.2 _ (by simp)) x (h6 x (List.mem_of_getElem? hx)).1
  ·obtain ⟨t1, t2, rfl⟩ := two_of h.1
   rw [isVF_mk 5] at hv
   simp [bareF, numsK, textsK, clocksK, valuesK, Val.nv, Val.mv, Val.sv, Val.cv, Val.vv, isVL] at hv
   have h5 := hv.2
   match w, h5, hb, hw with
   | [x, y], h5, hb, hw =>
    simp at h5
    have a1 := each_ok d t1 (h.2 _ (by simp)) (by omega) (h7.2 _ (by simp)) x h5.1
    have a2 := each_ok d t2 (h.2 _ (by simp)) (by omega) (h7.2 _ (by simp)) y h5.2
    exact each_pair t1 t2 hs (isF_le (by omega) (h.2 _ (by simp))) (isF_le (by omega) (h.2 _ (by simp))) n m s c x y [x, y] rfl hb (fun i => partsD d ([t1, t2].getD i nS) ([x, y].getD i noV)) a1 a2
   | [], h5, hb, hw => simp at h5
   | [x], h5, hb, hw => simp at h5
   | _ :: _ :: _ :: _, h5, hb, hw => simp at h5
  ·rw [isVF_mk 6] at hv
   simp [bareF, numsK, textsK, clocksK, valuesK, Val.nv, Val.mv, Val.sv, Val.cv, Val.vv] at hv
   exact absurd hv.1.1.1.2 hw
  ·exact absurd rfl hk7
  ·obtain ⟨t1, rfl⟩ := one_ins h.1 (by decide)
   rw [isVF_mk 8] at hv
   simp [bareF, numsK, textsK, clocksK, valuesK, Val.nv, Val.mv, Val.sv, Val.cv, Val.vv, isVL] at hv
   obtain ⟨⟨⟨⟨⟨_, _⟩, _⟩, hwl⟩, _⟩, ⟨h4, _⟩, h6⟩ := hv
   exact each_cause 8 (by decide) (by decide) t1 hs (isF_le (by omega) (h.2 _ (by simp))) n m s c w hw0 (by omega) h4 hb (fun i => partsD d t1 (w.getD i noV)) fun i x hx => by
    show EachOk t1 x (partsD d t1 (w.getD i noV))
    rw [getD_nV hx]
    exact each_ok d t1 (h.2 _ (by simp)) (by omega) (h7.2 _ (by simp)) x (h6 x (List.mem_of_getElem? hx))
theorem at_filter {α : Type} (q : α → Bool) : ∀ {l : List α} {j : Nat} {y : α}, l[j]? = some y → q y = true → (l.filter q)[((l.take j).filter q).length]? = some y
 | [], j, y, h, _ => by simp at h
 | x :: l, 0, y, h, hq => by
  simp at h
  subst h
  simp [hq]
 | x :: l, j + 1, y, h, hq => by
  have ih := at_filter q (l := l) (j := j) (y := y) (by simpa using h) hq
  rw [List.take_succ_cons]
  cases hx : q x with
  | true => simp [hx, ih]
  | false => simp [hx, ih]
def cntQ (q : Val → Bool) (ys : List Val) (j : Nat) : Nat := ((ys.take j).filter q).length
theorem cnt_succ {q : Val → Bool} {ys : List Val} {j : Nat} {y : Val} (h : ys[j]? = some y) : cntQ q ys (j + 1) = cntQ q ys j + if q y = true then 1 else 0 := by
 unfold cntQ
 rw [List.take_add_one, h, Option.toList_some, List.filter_append, List.length_append]
 congr 1
 cases hq : q y <;> simp [hq]
theorem cnt_all (q : Val → Bool) (ys : List Val) : cntQ q ys ys.length = (ys.filter q).length := by unfold cntQ; rw [List.take_length]
def goQ (q : Val → Bool) (ys : List Val) (m j : Nat) : Bool := !(q (ys.getD j noV) && decide (cntQ q ys j = m))
theorem cnt_le {q : Val → Bool} {ys : List Val} {m : Nat} : ∀ j, j ≤ ys.length → (∀ i, i < j → goQ q ys m i = true) → cntQ q ys j ≤ m
 | 0, _, _ => by simp [cntQ]
 | j + 1, hj, h => by
  have ih := cnt_le (q := q) (ys := ys) (m := m) j (by omega) fun i hi => h i (by omega)
  obtain ⟨y, hy⟩ : ∃ y, ys[j]? = some y := ⟨_, List.getElem?_eq_getElem (by omega)⟩
  have hg := h j (by omega)
  unfold goQ at hg
  rw [getD_nV hy] at hg
  rw [cnt_succ hy]
  cases hq : q y with
  | false => simpa using ih
  | true =>
   rw [hq] at hg
   simp at hg
   simp
   omega
theorem kept_spec (k ks : FuncId) (caps capss : List MV) (S : MS) : MCalls Tryz.prog 33 [.fn (.func k) [] caps, .fn (.func ks) [] capss] S fun r σ' => r = .fn (.func 62) [] [.ref S.length 0, .ref (S.length + 1) 0] ∧ σ' = S ++ [.cells [.fn (.func k) [] caps], .cells [.fn (.func ks) [] capss]] := by
 refine mcalls_body Tryz.func33 rfl Tryz.ntmps33 (Nat.le_of_ble_eq_true rfl) ?_
 refine mwp_seq <| qR rfl <| qB rfl rfl rfl rfl rfl <| qB rfl rfl rfl rfl rfl <| qA rfl rfl rfl <| qN <| mwp_seq <| qR rfl <| qO rfl <| op_makeFunc rfl rfl rfl <| qA rfl rfl rfl <| qN ?_
 refine mwp_facts fun hcv hcl => ?_
 refine mwp_ret ?_
 exact ret_tmpT (.inr rfl) Tryz.results33 rfl (.refl _) (hcv 4 _ rfl) (by simp) hcl ⟨rfl, rfl⟩
theorem kept_iter (k ks : FuncId) (hco : CallOk Tryz.prog k) (hcs_ : CallOk Tryz.prog ks) (caps capss : List MV) (ys : List Val) (q : Val → Bool) (F : List (Nat × MObj)) (hit : VIter k caps ys F) (hso : ∀ p ∈ ys, ∀ S', Sees F S' → MCalls Tryz.prog ks ([] ++ [encV p] ++ capss) S' fun r σ' => r = .bool (q p) ∧ σ' = S') (il is : Nat) :
  VIter 62 [.ref il 0, .ref is 0] (ys.filter q) ((il, .cells [.fn (.func k) [] caps]) :: (is, .cells [.fn (.func ks) [] capss]) :: F) := by
 intro l0
 refine GiveOk.iter (k := 62) (first := []) ?_
 intro id T m hok hm hyt hyf
 have hT : ∀ j, (T j).length = l0 := fun j => (hok j).1.1
 have hT_ : ∀ j, (T j).length = (T 0).length := fun j => (hT j).trans (hT 0).symm
 have hFs : ∀ p ∈ F, p ∈ (il, MObj.cells [.fn (.func k) [] caps]) :: (is, .cells [.fn (.func ks) [] capss]) :: F := fun p hp => List.mem_cons_of_mem _ (List.mem_cons_of_mem _ hp)
 refine mcalls_body Tryz.func62 rfl Tryz.ntmps62 (Nat.le_of_ble_eq_true rfl) ?_
 refine mwp_seq <| qR rfl <| qB rfl rfl rfl rfl rfl <| qN <| mwp_seq <| qR rfl <| qO rfl <| op_load_ref rfl rfl (get_app (hok 0).1.2.hd) ta62 rfl <| qN <| mwp_block ?_
 show mwp _ _ _ _ _ _ _ (T 0 ++ [.cells [.yld id]])
 refine mwp_facts fun _ hclW => ?_
 generalize hL0 : ([.cells [.yld id]] : MS) = L0 at hclW
 have hl8 : L0.length = 1 := by rw [← hL0]; rfl
 show mwp _ _ _ _ _ _ _ (([] : MS) ++ (T 0 ++ L0))
 refine mwp_rangeC (L0 := _) .ret (.inl rfl) (fun j => goQ q ys m j) (fun j => T (cntQ q ys j) ++ L0) (fun j => T (cntQ q ys j) ++ L0) (fun j => T (cntQ q ys j + 1) ++ L0) (fun j => by simp [hT]) (fun j => by simp [hT]) (fun j => by simp [hT]) rfl
  (fun j o ho n hn => cls_two (hT_ _) hclW (hok _).2 ho hn) (fun j o ho n hn => cls_two (hT_ _) hclW (hok _).2 ho hn) (fun j o ho n hn => cls_two (hT_ _) hclW (hok _).2 ho hn) rfl hco rfl (by simp [hT]) ((hit ((T 0).length + 2)).two)
  (fun j => ⟨by simp [hT, hl8], fun p hp => get_app (get_nil_app (get_app ((hok _).1.2 p (hFs p hp))))⟩) (fun j hj => rfl) (fun j s q_ => ⟨by simp [hT, hl8], fun p hp => get_app (get_nil_app (get_app ((hok _).1.2 p (hFs p hp))))⟩) rfl (fun y hy => by obtain ⟨i, _, rfl⟩ := List.mem_map.1 hy; rfl) ?_ ?_ ?_
 ·
  intro j y hy hbef L'
  rw [List.getElem?_map] at hy
  obtain ⟨p, hp, rfl⟩ := Option.map_eq_some_iff.1 hy
  obtain ⟨n1, m1, s1, c1, w1⟩ := p
  have hjl := (List.getElem?_eq_some_iff.1 hp).1
  have hcm := cnt_le j (by omega) hbef
  have hsq := hso (.mk n1 m1 s1 c1 w1) (List.mem_of_getElem? hp)
  have hgo : goQ q ys m j = !(q (.mk n1 m1 s1 c1 w1) && decide (cntQ q ys j = m)) := by unfold goQ; rw [getD_nV hp]
  have hcs := cnt_succ (q := q) hp
  have hlw : (T (cntQ q ys j)).length = (T 0).length := hT_ _
  refine qR rfl <| qO rfl <| op_alloc rfl zm30 <| qO rfl <| op_store_last rfl rfl rfl sz30 rfl rfl (Nat.le_of_ble_eq_true rfl) <| qN ?_
  refine ⟨rfl, [_], rfl, ?_⟩
  rw [flat4]
  refine mwp_abs fun R hR => ?_
  have hse : ∀ (X : MS), Sees F (T (cntQ q ys j) ++ X) := fun X => Sees.app fun p hp => (hok _).1.2 p (hFs p hp)
  obtain ⟨r, hr⟩ : ∃ r, q (.mk n1 m1 s1 c1 w1) = r := ⟨_, rfl⟩
  rw [hr] at hsq hgo hcs
  refine mwp_block <| mwp_seq ?_
  rcases r with _ | _
  rotate_left
  rcases Nat.lt_or_eq_of_le hcm with hclt | hceq
  rotate_right
  ·
   refine qR rfl <| qO rfl <| op_load_ref rfl rfl (get_app (hok _).1.2.tl.hd) ta75 rfl <| qO rfl <| op_viewTo (y := encV (.mk n1 m1 s1 c1 w1)) (op_load_ref rfl rfl (by rw [hR]; exact get_rtN ((hT_ _).trans (hT_ _).symm)) ta30 rfl ⟨rfl, rfl⟩) (.refl _) ?_
   refine wOps_op rfl (op_call rfl rfl rfl hcs_ ((hsq _ (hse R)).mono ?_))
   rintro _ _ ⟨rfl, rfl⟩
   refine qM rfl rfl rfl <| qS rfl <| qS rfl <| qS rfl <| qS rfl <| qP rfl rfl rfl rfl <| qN <| mwp_cond_f rfl (rfl) <| mwp_skip ?_
   exact .inl ⟨by rw [hgo]; first | rfl | (rw [decide_eq_false (by omega)]; rfl), rfl, [_], by rw [hcs, hR]; exact flat4.symm⟩
  ·
   have hyg : ((ys.filter q).map fun p => [encV p])[cntQ q ys j]? = some [encV (.mk n1 m1 s1 c1 w1)] := by rw [List.getElem?_map]; unfold cntQ; rw [at_filter q hp hr]; rfl
   refine qR rfl <| qO rfl <| op_load_ref rfl rfl (get_app (hok _).1.2.tl.hd) ta75 rfl <| qO rfl <| op_viewTo (y := encV (.mk n1 m1 s1 c1 w1)) (op_load_ref rfl rfl (by rw [hR]; exact get_rtN ((hT_ _).trans (hT_ _).symm)) ta30 rfl ⟨rfl, rfl⟩) (.refl _) ?_
   refine wOps_op rfl (op_call rfl rfl rfl hcs_ ((hsq _ (hse R)).mono ?_))
   rintro _ _ ⟨rfl, rfl⟩
   refine qM rfl rfl rfl <| qO rfl <| op_load_ref rfl rfl (by rw [hR]; exact look2 (hT_ _) (k := 0) (by rw [← hL0]; rfl)) ta75 rfl ?_
   refine qO rfl <| op_viewTo (y := encV (.mk n1 m1 s1 c1 w1)) (op_load_ref rfl rfl (by rw [hR]; exact get_rtN ((hT_ _).trans (hT_ _).symm)) ta30 rfl ⟨rfl, rfl⟩) (.refl _) ?_
   refine qO rfl <| (hyt _ _ hclt hyg R _ _ _ _ _ _ rfl rfl rfl).mono ?_
   rintro _ _ ⟨rfl, rfl⟩
   refine qO rfl <| op_not rfl rfl <| qP rfl rfl rfl rfl <| qN <| mwp_cond_f rfl (rfl) <| mwp_skip ?_
   exact .inl ⟨by rw [hgo]; first | rfl | (rw [decide_eq_false (by omega)]; rfl), rfl, [_], by rw [hcs, hR]; exact flat4.symm⟩
  ·
   have hyg : ((ys.filter q).map fun p => [encV p])[cntQ q ys j]? = some [encV (.mk n1 m1 s1 c1 w1)] := by rw [List.getElem?_map]; unfold cntQ; rw [at_filter q hp hr]; rfl
   refine qR rfl <| qO rfl <| op_load_ref rfl rfl (get_app (hok _).1.2.tl.hd) ta75 rfl <| qO rfl <| op_viewTo (y := encV (.mk n1 m1 s1 c1 w1)) (op_load_ref rfl rfl (by rw [hR]; exact get_rtN ((hT_ _).trans (hT_ _).symm)) ta30 rfl ⟨rfl, rfl⟩) (.refl _) ?_
   refine wOps_op rfl (op_call rfl rfl rfl hcs_ ((hsq _ (hse R)).mono ?_))
   rintro _ _ ⟨rfl, rfl⟩
   refine qM rfl rfl rfl <| qO rfl <| op_load_ref rfl rfl (by rw [hR]; exact look2 (hT_ _) (k := 0) (by rw [← hL0]; rfl)) ta75 rfl ?_
   refine qO rfl <| op_viewTo (y := encV (.mk n1 m1 s1 c1 w1)) (op_load_ref rfl rfl (by rw [hR]; exact get_rtN ((hT_ _).trans (hT_ _).symm)) ta30 rfl ⟨rfl, rfl⟩) (.refl _) ?_
   refine qO rfl <| (hyf _ _ hceq hyg R _ _ _ _ _ _ rfl rfl rfl).mono ?_
   rintro _ _ ⟨rfl, rfl⟩
   refine qO rfl <| op_not rfl rfl <| qP rfl rfl rfl rfl <| qN <| mwp_cond_t rfl (rfl) <| mwp_ret ?_
   exact .inr ⟨by rw [hgo, decide_eq_true hceq]; rfl, rfl, [_], by rw [hR]; exact flat4.symm⟩
 ·
  intro hall
  have hmm : cntQ q ys ys.length = m := by
   have h1 := cnt_le (q := q) (ys := ys) (m := m) ys.length (Nat.le_refl _) (fun i hi => hall i (by simpa using hi))
   have h2 := cnt_all q ys
   rw [List.length_map] at hm
   rcases Nat.lt_or_ge (cntQ q ys ys.length) m with h | h
   ·omega
   ·omega
  have e1 : (ys.map fun p => [encV p]).length = ys.length := List.length_map ..
  show BlockM _ _ _ _ ((T _ ++ L0) ++ [.gone])
  rw [List.append_assoc (T _) L0, e1, hmm]
  exact ret_noneS (S' := T m) (.inl rfl) Tryz.results62 (Nat.le_of_eq (hT_ _).symm) (hok _).2 ⟨rfl, by rw [List.length_map, ← cnt_all, hmm, if_neg (by omega)]⟩
 ·
  intro j y hy hp
  rw [List.getElem?_map] at hy
  obtain ⟨p, hp2, rfl⟩ := Option.map_eq_some_iff.1 hy
  have hg : goQ q ys m j = !(q p && decide (cntQ q ys j = m)) := by unfold goQ; rw [getD_nV hp2]
  rw [hp] at hg
  have hq2 : q p = true ∧ cntQ q ys j = m := by
   have hh : (q p && decide (cntQ q ys j = m)) = true := by
    cases hh : (q p && decide (cntQ q ys j = m)) with
    | true => rfl
    | false => rw [hh] at hg; cases hg
   rw [Bool.and_eq_true] at hh
   exact ⟨hh.1, of_decide_eq_true hh.2⟩
  have hlt := (List.getElem?_eq_some_iff.1 (at_filter q hp2 hq2.1)).1
  have hlt2 : m < (ys.filter q).length := by rw [← hq2.2]; exact hlt
  show BodyQ _ _ _ _ _ _ ((T (cntQ q ys j + 1) ++ L0) ++ [.gone])
  rw [List.append_assoc (T (cntQ q ys j + 1)) L0]
  exact ret_noneS (S' := T (cntQ q ys j + 1)) (.inr rfl) Tryz.results62 (Nat.le_of_eq (hT_ _).symm) (hok _).2 ⟨rfl, by rw [hq2.2, List.length_map, if_pos hlt2]⟩
end Go.Proofs.YtnfcnpdpfgcchaaGreat
end
section
set_option linter.unusedVariables false
set_option linter.unusedSimpArgs false
set_option linter.unusedSectionVars false
set_option maxRecDepth 20000
namespace Go.Proofs.YtnfcnpdpfgcchaaGreat
open Go Go.MV
theorem eqlI {a b : Int} (h : a = b) : intCmp .eql a b = some true := by simp [intCmp, h]
section
variable {a b : List Tk} (ha : Go.MV.Up a) (hb : Go.MV.Up b) (pa : Go.MV.Pos a) (pb : Go.MV.Pos b)
include ha hb pa pb
end
section
variable {a b : List Tk} (ka : isClockF a = true) (kb : isClockF b = true) (oa : ∀ t ∈ a, okTk t) (ob : ∀ t ∈ b, okTk t) (la : a.length ≤ 15) (lb : b.length ≤ 15)
include ka kb oa ob la lb
end
section
variable {a b : List Tk} {x y : Int} (ka : isClockF a = true) (kb : isClockF b = true) (oa : ∀ t ∈ a, okTk t) (ob : ∀ t ∈ b, okTk t)
include ka kb oa ob
end
theorem both_iff {A B : List Bs} (ha : Up A) (hb : Up B) : bothX A B = B ↔ ∀ z ∈ A, z ∈ B := by
  constructor
  · intro h z hz
    rw [← h, mem_both]
    exact .inl hz
  · intro h
    refine up_ext (up_both A B ha hb) hb fun z => ?_
    rw [mem_both]
    exact ⟨fun hz => hz.elim (h z) id, .inr⟩
def setV (A : List Bs) : Val := .mk 0 0 A [] []
theorem leq_set {A B : List Bs} (ha : isRowF A = true) (hb : isRowF B = true) (ua : Up A) (ub : Up B) (hl : A.length + B.length ≤ 40) : leqVF (.mk 3 []) (setV A) (setV B) = .ok (decide (∀ z ∈ A, z ∈ B)) := by
  have h := join_set ha hb
  rw [if_neg (by have := both_len A B; omega)] at h
  unfold setV
  rw [leq_ok h]
  congr 1
  rw [decide_eq_decide, ← both_iff ua ub]
  simp
theorem leq_at {s : Sch} {a b : Val} {r : Except Int Bool} (ha : okV a) (hb : okV b) (h : leqVF s a b = r) (S : MS) : MCalls Tryz.prog 31 [encS s, encV a, encV b] S fun v σ' => v = encL r ∧ σ' = S := h ▸ leq_spec s a b ha hb S
end Go.Proofs.YtnfcnpdpfgcchaaGreat
end
section
set_option linter.unusedVariables false
set_option linter.unusedSimpArgs false
set_option maxRecDepth 20000
set_option maxHeartbeats 400000
namespace Go.Proofs.YtnfcnpdpfgcchaaGreat
open Go Go.MV
mutual
theorem okV_botA : ∀ s : Sch, okV (bottomF s)
 | .mk k ins => by
  rw [bot_mk]
  split
  ·exact okV_mk.2 ⟨by omega, by omega, by simp, okV_botL ins⟩
  ·simp [noV, okV, okVs]
theorem okV_botL : ∀ l : List Sch, ∀ x ∈ bottomL l, okV x
 | [], x, h => by simp [bottomL] at h
 | s :: l, x, h => by
  rw [bottomL] at h
  rcases List.mem_cons.1 h with rfl | h
  ·exact okV_botA s
  ·exact okV_botL l x h
end
theorem okV_no_ : okV noV := by simp [noV, okV, okVs]
theorem okV_getD {w : List Val} (h : ∀ x ∈ w, okV x) (i : Nat) : okV (w.getD i noV) := by
 rcases Nat.lt_or_ge i w.length with hi | hi
 ·rw [getD_nV (List.getElem?_eq_getElem hi)]
  exact h _ (List.getElem_mem hi)
 ·simp [List.getElem?_eq_none hi]
  exact okV_no_
theorem okT_getD {c : List (List Tk)} (h : ∀ x ∈ c, ∀ t ∈ x, okTk t) (i : Nat) : ∀ t ∈ c.getD i [], okTk t := by
 rcases Nat.lt_or_ge i c.length with hi | hi
 ·simp [List.getElem?_eq_getElem hi]
  exact fun a b h2 => h _ (List.getElem_mem hi) (a, b) h2
 ·simp [List.getElem?_eq_none hi]
theorem parts_okV : ∀ (d : Nat) (s : Sch) (v : Val), okV v → ∀ p ∈ partsD d s v, okV p
 | 0, _, _, _, p, hp => by simp [partsD] at hp
 | d + 1, .mk k ins, .mk n m s c w, ho, p, hp => by
  have o := okV_mk.1 ho
  rw [partsD] at hp
  split at hp
  ·cases hp
  ·split at hp
   ·by_cases h3 : k = 3
    ·subst h3
     simp [leavesF] at hp
     obtain ⟨t, _, rfl⟩ := hp
     simp [okV, okVs]
    ·simp [leavesF, h3] at hp
     subst hp
     exact ho
   ·obtain ⟨i, _, hp⟩ := List.mem_flatMap.1 hp
    unfold partAt at hp
    have hx := okV_getD o.2.2.2 i
    split at hp
    ·obtain ⟨q, hq, rfl⟩ := List.mem_map.1 hp
     have := parts_okV d _ _ hx q hq
     exact okV_mk.2 ⟨by omega, by omega, by simp, fun y hy => by simp at hy; subst hy; exact this⟩
    ·split at hp
     ·obtain ⟨q, hq, rfl⟩ := List.mem_map.1 hp
      have := parts_okV d _ _ hx q hq
      exact okV_mk.2 ⟨by omega, by omega, by simp, okV_setAt (okV_botL ins) this⟩
     ·obtain ⟨q, hq, rfl⟩ := List.mem_map.1 hp
      have hq2 : okV q := by
       unfold innerF at hq
       split at hq
       ·simp at hq; subst hq; exact hx
       ·exact parts_okV d _ _ hx q hq
      exact okV_mk.2 ⟨by omega, by omega, fun x hx t ht => by simp at hx; subst hx; exact okT_getD o.2.2.1 i t ht, fun y hy => by simp at hy; subst hy; exact hq2⟩
theorem diffAlone_spec (s : Sch) (a p : Val) (oa : okV a) (op : okV p) (ids ida : Nat) (S : MS) (hs : S[ids]? = some (.cells (encS s).cells)) (ha : S[ida]? = some (.cells (encV a).cells)) : MCalls Tryz.prog 34 [encV p, .ref ids 0, .ref ida 0] S fun v σ' => v = .bool (!leqB s a p) ∧ σ' = S := by
 obtain ⟨k, ins⟩ := s
 obtain ⟨n1, m1, s1, c1, w1⟩ := p
 obtain ⟨n2, m2, s2, c2, w2⟩ := a
 refine mcalls_body Tryz.func34 rfl Tryz.ntmps34 (Nat.le_of_ble_eq_true rfl) ?_
 refine mwp_seq <| qR rfl <| qB rfl rfl rfl rfl rfl <| qA rfl rfl rfl <| qN <| mwp_seq ?_
 have hof := leq_spec (.mk k ins) (.mk n1 m1 s1 c1 w1) (.mk n2 m2 s2 c2 w2) op oa
 rcases exE (leqVF (.mk k ins) (.mk n1 m1 s1 c1 w1) (.mk n2 m2 s2 c2 w2)) with ⟨e, hl⟩ | ⟨l, hl⟩ <;> rw [hl] at hof
 ·
  refine qR rfl <| qO rfl <| op_load_far rfl rfl hs ta24 rfl <| qL rfl rfl rfl rfl ta30 rfl <| qO rfl <| op_load_far rfl rfl ha ta30 rfl ?_
  refine wOps_op rfl (op_call rfl rfl rfl co31 ((hof _).mono ?_))
  rintro _ _ ⟨rfl, rfl⟩
  refine qM rfl rfl rfl <| qO rfl <| op_extract rfl rfl rfl <| qO rfl <| op_extract rfl rfl rfl <| qA rfl rfl rfl <| qA rfl rfl rfl <| qN <| mwp_seq <| qR rfl <| qM rfl rfl rfl <| qO rfl <| op_ifnil rfl Tryz.underlying34 rfl rfl (.inl ⟨rfl, rfl⟩) <| qM rfl rfl rfl <| qS rfl <| qS rfl <| qP rfl rfl rfl rfl <| qA rfl rfl rfl <| qN <| mwp_ret ?_
  exact ret_tmp (.inr rfl) Tryz.results34 rfl (.of_eq (congrArg MV.bool (by unfold leqB; rw [hl]; rfl))) (.bool _) ⟨rfl, rfl⟩
 ·
  refine qR rfl <| qO rfl <| op_load_far rfl rfl hs ta24 rfl <| qL rfl rfl rfl rfl ta30 rfl <| qO rfl <| op_load_far rfl rfl ha ta30 rfl ?_
  refine wOps_op rfl (op_call rfl rfl rfl co31 ((hof _).mono ?_))
  rintro _ _ ⟨rfl, rfl⟩
  refine qM rfl rfl rfl <| qO rfl <| op_extract rfl rfl rfl <| qO rfl <| op_extract rfl rfl rfl <| qA rfl rfl rfl <| qA rfl rfl rfl <| qN <| mwp_seq <| qR rfl <| qM rfl rfl rfl <| qO rfl <| op_if0 rfl Tryz.underlying34 rfl rfl (.inl ⟨rfl, rfl⟩) <| qM rfl rfl rfl <| qM rfl rfl rfl <| qO rfl <| op_not rfl rfl <| qP rfl rfl rfl rfl <| qA rfl rfl rfl <| qN <| mwp_ret ?_
  exact ret_tmp (.inr rfl) Tryz.results34 rfl (.of_eq (congrArg MV.bool (by unfold leqB; rw [hl]))) (.bool _) ⟨rfl, rfl⟩
theorem valIs_at {s : Sch} {v : Val} {b : Bool} (h : (isF 16 s && isVF s v) = b) (ov : okV v) (S : MS) : MCalls Tryz.prog 23 [encS s, encV v] S fun r σ' => r = .bool b ∧ σ' = S := by rw [← h]; exact valIs_spec s v ov S
theorem Parts_bad (s : Sch) (v : Val) (ov : okV v) (h : (isF 16 s && isVF s v) = false) (S : MS) : MCalls Tryz.prog 10 [encS s, encV v] S fun r σ' => r = .tup [.lst0, encErr 14] ∧ σ' = S := by
 obtain ⟨k, ins⟩ := s
 obtain ⟨n, m, s0, c, w⟩ := v
 refine mcalls_body Tryz.func10 rfl Tryz.ntmps10 (Nat.le_of_ble_eq_true rfl) ?_
 refine mwp_seq <| qR rfl <| qB rfl rfl rfl rfl rfl <| qB rfl rfl rfl rfl rfl <| qA rfl rfl rfl <| qA rfl rfl rfl <| qN <| mwp_seq <| mwp_seq <| qR rfl <| qL rfl rfl rfl rfl ta24 rfl <| qL rfl rfl rfl rfl ta30 rfl ?_
 refine wOps_op rfl (op_call rfl rfl rfl co23 ((valIs_at (s := (.mk k ins)) (v := (.mk n m s0 c w)) h ov _).mono ?_))
 rintro _ _ ⟨rfl, rfl⟩
 refine qO rfl <| op_not rfl rfl <| qN <| mwp_cond_t rfl (rfl) <| mwp_seq <| qR rfl <| qO rfl <| op_makeInterface rfl rfl Tryz.underlying58 (by simp) ?_
 refine qA rfl rfl rfl <| qA rfl rfl rfl <| qN <| mwp_ret ?_
 exact ret_tmp2 (.inr rfl) Tryz.results10 rfl rfl (.refl _) (.refl _) (.lst0) (.iface _ _ (.int _ _)) ⟨rfl, rfl⟩
theorem row_at (s : Sch) (v : Val) {ys : List Val} {i1 i2 : Nat} (S : MS) (h1 : S[i1]? = some (.cells (encS s).cells)) (h2 : S[i2]? = some (.cells (encV v).cells)) (h : EachOk s v ys) (hl : ys.length ≤ 1000000) : MCalls Tryz.prog 24 [.fn (.func 45) [] [.ref i1 0, .ref i2 0]] S fun r σ' => r = .lst none 5 (encVs ys) ∧ σ' = S :=
 row_spec 45 co45 _ ys _ S (.cons h1 (.cons h2 .nil)) (h i1 i2) hl
theorem Parts_ok (s : Sch) (v : Val) (ov : okV v) (hs : isF 16 s = true) (h7 : noK7 16 s = true) (hv : isVF s v = true) (hl : (partsD 16 s v).length ≤ 1000000) (S : MS) : MCalls Tryz.prog 10 [encS s, encV v] S fun r σ' => r = .tup [.lst none 5 (encVs (partsD 16 s v)), .iface0] ∧ σ' = S := by
 obtain ⟨k, ins⟩ := s
 obtain ⟨n, m, s0, c, w⟩ := v
 refine mcalls_body Tryz.func10 rfl Tryz.ntmps10 (Nat.le_of_ble_eq_true rfl) ?_
 refine mwp_seq <| qR rfl <| qB rfl rfl rfl rfl rfl <| qB rfl rfl rfl rfl rfl <| qA rfl rfl rfl <| qA rfl rfl rfl <| qN <| mwp_seq <| mwp_seq <| qR rfl <| qL rfl rfl rfl rfl ta24 rfl <| qL rfl rfl rfl rfl ta30 rfl ?_
 refine wOps_op rfl (op_call rfl rfl rfl co23 ((valIs_at (s := (.mk k ins)) (v := (.mk n m s0 c w)) (b := true) (by rw [hs, hv]; rfl) ov _).mono ?_))
 rintro _ _ ⟨rfl, rfl⟩
 refine qO rfl <| op_not rfl rfl <| qN <| mwp_cond_f rfl (rfl) <| mwp_skip <| mwp_seq <| qR rfl <| qL rfl rfl rfl rfl ta24 rfl <| qL rfl rfl rfl rfl ta30 rfl ?_
 refine wOps_op rfl (op_call rfl rfl rfl co25 ((each_at (.mk k ins) (.mk n m s0 c w) rfl).mono ?_))
 rintro _ _ ⟨rfl, rfl⟩
 refine wOps_op rfl (op_call rfl rfl rfl co24 ((row_at (.mk k ins) (.mk n m s0 c w) _ (by rw [getElem?_own]; rfl) (by rw [getElem?_own]; rfl) (each_ok 16 _ hs (Nat.le_refl _) h7 _ hv) hl).mono ?_))
 rintro _ _ ⟨rfl, rfl⟩
 refine qA rfl rfl rfl <| qA rfl rfl rfl <| qN <| mwp_ret ?_
 exact ret_tmp2 (.inr rfl) Tryz.results10 rfl rfl (.refl _) (.refl _) (cl_encVl _ _) (.iface0) ⟨rfl, rfl⟩
theorem kept_at (k ks : FuncId) (caps capss : List MV) {S L : MS} {n : Nat} (hL : L.length = n) : MCalls Tryz.prog 33 [.fn (.func k) [] caps, .fn (.func ks) [] capss] (S ++ L) fun r σ' => r = .fn (.func 62) [] [.ref (S.length + n) 0, .ref (S.length + (n + 1)) 0] ∧ σ' = S ++ (L ++ [.cells [.fn (.func k) [] caps], .cells [.fn (.func ks) [] capss]]) := by
 refine (kept_spec k ks caps capss (S ++ L)).mono ?_
 rintro r σ' ⟨rfl, rfl⟩
 rw [List.length_append, hL, List.append_assoc]
 exact ⟨rfl, rfl⟩
theorem Diff_ok (s : Sch) (a b : Val) (oa : okV a) (ob : okV b) (hs : isF 16 s = true) (h7 : noK7 16 s = true) (hv : isVF s b = true) (l : Bool) (hle : leqVF s a b = .ok l) (hl : (partsD 16 s b).length ≤ 1000000) (r : Val) (hr : diffVF s a b = .ok r) (S : MS) : MCalls Tryz.prog 17 [encS s, encV a, encV b] S fun v σ' => v = .tup [encV r, .iface0] ∧ σ' = S := by
 obtain ⟨k, ins⟩ := s
 obtain ⟨n1, m1, s1, c1, w1⟩ := a
 obtain ⟨n2, m2, s2, c2, w2⟩ := b
 obtain ⟨n3, m3, s3, c3, w3⟩ := r
 refine mcalls_body Tryz.func17 rfl Tryz.ntmps17 (Nat.le_of_ble_eq_true rfl) ?_
 have hki := fun il is => kept_iter 45 34 co45 co34 [.ref (S.length + 4) 0, .ref (S.length + 5) 0] [.ref (S.length + 0) 0, .ref (S.length + 1) 0] (partsD 16 (.mk k ins) (.mk n2 m2 s2 c2 w2)) (fun p => !leqB (.mk k ins) (.mk n1 m1 s1 c1 w1) p) [(S.length + 4, .cells (encS (.mk k ins)).cells), (S.length + 5, .cells (encV (.mk n2 m2 s2 c2 w2)).cells), (S.length + 0, .cells (encS (.mk k ins)).cells), (S.length + 1, .cells (encV (.mk n1 m1 s1 c1 w1)).cells)]
  (fun l0 => ((each_ok 16 _ hs (Nat.le_refl _) h7 _ hv (S.length + 4) (S.length + 5)) l0).weak fun σ h => ⟨⟨h.1.1, .cons h.1.2.hd (.cons h.1.2.tl.hd .nil)⟩, h.2⟩) (fun p hp S' hS => diffAlone_spec (.mk k ins) (.mk n1 m1 s1 c1 w1) p oa (parts_okV 16 _ _ ob p hp) _ _ S' hS.tl.tl.hd hS.tl.tl.tl.hd) il is
 have hfl : ((partsD 16 (.mk k ins) (.mk n2 m2 s2 c2 w2)).filter fun p => !leqB (.mk k ins) (.mk n1 m1 s1 c1 w1) p).length ≤ 1000000 := Nat.le_trans (List.length_filter_le _ _) hl
 have hfo : ∀ x ∈ ((partsD 16 (.mk k ins) (.mk n2 m2 s2 c2 w2)).filter fun p => !leqB (.mk k ins) (.mk n1 m1 s1 c1 w1) p), okV x := fun x hx => parts_okV 16 _ _ ob x (List.mem_filter.1 hx).1
 have hd : diffVF (.mk k ins) (.mk n1 m1 s1 c1 w1) (.mk n2 m2 s2 c2 w2) = AllF (.mk k ins) ((partsD 16 (.mk k ins) (.mk n2 m2 s2 c2 w2)).filter fun p => !leqB (.mk k ins) (.mk n1 m1 s1 c1 w1) p) := by unfold diffVF; rw [hle]
 rw [hd] at hr
 refine mwp_seq <| qR rfl <| qB rfl rfl rfl rfl rfl <| qB rfl rfl rfl rfl rfl <| qB rfl rfl rfl rfl rfl <| qO rfl <| op_alloc' rfl zm30 rfl rfl <| qA rfl rfl rfl <| qN <| mwp_seq <| mwp_seq <| qR rfl <| qL rfl rfl rfl rfl ta24 rfl <| qL rfl rfl rfl rfl ta30 rfl <| qL rfl rfl rfl rfl ta30 rfl ?_
 refine wOps_op rfl (op_call rfl rfl rfl co31 ((leq_at (s := (.mk k ins)) (a := (.mk n1 m1 s1 c1 w1)) (b := (.mk n2 m2 s2 c2 w2)) oa ob hle _).mono ?_))
 rintro _ _ ⟨rfl, rfl⟩
 refine qM rfl rfl rfl <| qO rfl <| op_extract rfl rfl rfl <| qO rfl <| op_extract rfl rfl rfl <| qA rfl rfl rfl <| qA rfl rfl rfl <| qN <| mwp_seq <| qR rfl <| qM rfl rfl rfl <| qO rfl <| op_if0 rfl Tryz.underlying34 rfl rfl (.inr ⟨rfl, rfl⟩) <| qN <| mwp_cond_f rfl (rfl) <| mwp_skip <| mwp_seq ?_
 refine mwp_draw [3, 5, 10] [_, S ++ [.cells (encS (.mk k ins)).cells, .cells (encV (.mk n1 m1 s1 c1 w1)).cells, .cells (encV (.mk n2 m2 s2 c2 w2)).cells, .cells [.int .u64 0, .int .u64 0, .lst0, .lst0, .lst0], .cells (encS (.mk k ins)).cells, .cells (encV (.mk n2 m2 s2 c2 w2)).cells], S ++ [.cells (encS (.mk k ins)).cells, .cells (encV (.mk n1 m1 s1 c1 w1)).cells, .cells (encV (.mk n2 m2 s2 c2 w2)).cells, .cells [.int .u64 0, .int .u64 0, .lst0, .lst0, .lst0], .cells (encS (.mk k ins)).cells, .cells (encV (.mk n2 m2 s2 c2 w2)).cells, .cells [.fn (.func 45) [] [.ref (S.length + 4) 0, .ref (S.length + 5) 0]], .cells [.fn (.func 34) [] [.ref (S.length + 0) 0, .ref (S.length + 1) 0]]], S ++ [.cells (encS (.mk k ins)).cells, .cells (encV (.mk n1 m1 s1 c1 w1)).cells, .cells (encV (.mk n2 m2 s2 c2 w2)).cells, .cells (encV (.mk n3 m3 s3 c3 w3)).cells, .cells (encS (.mk k ins)).cells, .cells (encV (.mk n2 m2 s2 c2 w2)).cells, .cells [.fn (.func 45) [] [.ref (S.length + 4) 0, .ref (S.length + 5) 0]], .cells [.fn (.func 34) [] [.ref (S.length + 0) 0, .ref (S.length + 1) 0]]]] mo (by decide) rfl rfl rfl rfl ?_
 refine dOps_op rfl rfl (.cons (op_load' rfl rfl rfl ta24 rfl ⟨rfl, rfl⟩) (.cons (op_load' rfl rfl rfl ta24 rfl ⟨rfl, rfl⟩) (.cons (op_load' rfl rfl rfl ta24 rfl ⟨rfl, rfl⟩) (.nil)))) <| dO rfl rfl rfl (op_load' rfl rfl rfl ta24 rfl ⟨rfl, rfl⟩) <| dO rfl rfl rfl (op_load' rfl rfl rfl ta30 rfl ⟨rfl, rfl⟩) <| dOps_eff rfl rfl rfl rfl (op_call rfl rfl rfl co25 (each_at (.mk k ins) (.mk n2 m2 s2 c2 w2) rfl)) <| dOps_op rfl rfl (.cons (op_makeFunc rfl rfl rfl ⟨rfl, rfl⟩) (.cons (op_makeFunc rfl rfl rfl ⟨rfl, rfl⟩) (.nil))) <| dOps_eff rfl rfl rfl rfl (op_call rfl rfl rfl co33 (kept_at _ _ _ _ rfl)) ?_
 refine dOps_op rfl rfl (.cons (op_call rfl rfl rfl co24 (row_spec 62 co62 _ _ _ _ (.cons (by rw [getElem?_own]; rfl) (.cons (by rw [getElem?_own]; rfl) (.cons (by rw [getElem?_own]; rfl) (.cons (by rw [getElem?_own]; rfl) (.cons (by rw [getElem?_own]; rfl) (.cons (by rw [getElem?_own]; rfl) .nil)))))) (hki (S.length + 6) (S.length + 7)) hfl)) .nil) ?_
 refine dOps_op rfl rfl (.cons (op_call rfl rfl rfl co32 (all_at_ (s := (.mk k ins)) hfo hr _)) (.cons (op_call rfl rfl rfl co32 (all_at_ (s := (.mk k ins)) hfo hr _)) (.cons (op_call rfl rfl rfl co32 (all_at_ (s := (.mk k ins)) hfo hr _)) (.nil)))) <| dOps_op rfl rfl (.cons (op_extract rfl rfl rfl ⟨rfl, rfl⟩) (.cons (op_extract rfl rfl rfl ⟨rfl, rfl⟩) (.cons (op_extract rfl rfl rfl ⟨rfl, rfl⟩) (.nil)))) <| dOps_op rfl rfl (.cons (op_extract rfl rfl rfl ⟨rfl, rfl⟩) (.cons (op_extract rfl rfl rfl ⟨rfl, rfl⟩) (.cons (op_extract rfl rfl rfl ⟨rfl, rfl⟩) (.nil)))) <| dOps_eff rfl rfl rfl rfl (op_store' rfl rfl rfl rfl sz30 rfl rfl (Nat.le_of_ble_eq_true rfl) rfl ⟨rfl, rfl⟩) <| dO rfl rfl rfl (op_assign rfl rfl ⟨rfl, rfl⟩) <| dOps_nil <| mwp_ret ?_
 exact ret_cell_tmp (.inr rfl) Tryz.results17 rfl rfl ta30 rfl (.refl _) (cl_encV _ ((.mk n3 m3 s3 c3 w3))) rfl (.refl _) (.iface0) ⟨rfl, rfl⟩
end Go.Proofs.YtnfcnpdpfgcchaaGreat
end
section
set_option linter.unusedVariables false
set_option linter.unusedSimpArgs false
set_option maxRecDepth 20000
set_option maxHeartbeats 400000
namespace Go.Proofs.YtnfcnpdpfgcchaaGreat
open Go Go.MV
theorem leqN_t {a b : Nat} (h : a ≤ b) : intCmp .leq (a : Int) (b : Int) = some true := by simp [intCmp]; exact h
theorem leqN_f {a b : Nat} (h : ¬ a ≤ b) : intCmp .leq (a : Int) (b : Int) = some false := by simp [intCmp]; omega
end Go.Proofs.YtnfcnpdpfgcchaaGreat
end
section
set_option linter.unusedVariables false
set_option linter.unusedSimpArgs false
set_option maxRecDepth 20000
set_option maxHeartbeats 400000
namespace Go.Proofs.YtnfcnpdpfgcchaaGreat
open Go Go.MV
theorem okV_set (A : List Bs) : okV (setV A) := by simp [setV, okV, okVs]
theorem eqN {a b : Nat} : ((a : Int) == (b : Int)) = decide (a = b) := by
 by_cases h : a = b
 ·subst h; simp
 ·rw [decide_eq_false h]
  simp
  omega
theorem eqN' {a b : Nat} : intCmp .eql (a : Int) (b : Int) = some (decide (a = b)) := by simp only [intCmp, eqN]
end Go.Proofs.YtnfcnpdpfgcchaaGreat
end
section
set_option linter.unusedVariables false
set_option linter.unusedSimpArgs false
set_option maxRecDepth 20000
set_option maxHeartbeats 400000
namespace Go.Proofs.YtnfcnpdpfgcchaaGreat
open Go Go.MV
def one3 (t : Bs) : Val := setV [t]
theorem parts_set (d : Nat) (A : List Bs) : partsD (d + 1) (.mk 3 []) (setV A) = A.map one3 := by
  unfold setV
  by_cases h : A = []
  · subst h
    rw [parts_none (by rw [bot_mk, if_neg (by decide)]; rfl)]
    rfl
  · rw [parts_leaf (by rw [bot_mk, if_neg (by decide)]; unfold noV; intro e; injection e with _ _ e; exact h e.symm)]
    rfl
theorem up_one (t : Bs) : Up [t] := by simp [Up]
theorem row_one {t : Bs} (h : t.length ≤ 16) : isRowF [t] = true := row_iff.2 ⟨by simp, up_one t, fun x hx => by simp at hx; subst hx; exact h⟩
theorem leqB_set {A : List Bs} {t : Bs} (ha : isRowF A = true) (ht : t.length ≤ 16) (hl : A.length ≤ 30) : leqB (.mk 3 []) (setV A) (one3 t) = decide (t ∈ A) := by
  unfold leqB one3
  rw [leq_set (row_one ht) ha (up_one t) (row_iff.1 ha).2.1 (by simp; omega)]
  simp
theorem both_snoc {t : Bs} : ∀ {acc : List Bs}, (∀ x ∈ acc, Op.bytesLess x t = true) → bothX acc [t] = acc ++ [t]
  | [], _ => by rw [bothX, bothX]; rfl
  | x :: acc, h => by
    rw [bothX, if_pos (h x (List.mem_cons_self ..)), both_snoc (fun y hy => h y (List.mem_cons_of_mem _ hy))]
    rfl
theorem row_sub {A B : List Bs} (h : isRowF B = true) (hs : A.Sublist B) : isRowF A = true := by
  obtain ⟨h1, h2, h3⟩ := row_iff.1 h
  exact row_iff.2 ⟨Nat.le_trans hs.length_le h1, h2.sublist hs, fun x hx => h3 x (hs.mem hx)⟩
theorem allGo_set : ∀ (l acc : List Bs), isRowF (acc ++ l) = true → allGo (.mk 3 []) (setV acc) (l.map one3) = .ok (setV (acc ++ l))
  | [], acc, _ => by rw [List.append_nil]; rfl
  | t :: l, acc, h => by
    have e : acc ++ t :: l = (acc ++ [t]) ++ l := by simp
    rw [e] at h
    obtain ⟨h1, h2, h3⟩ := row_iff.1 h
    have hb : bothX acc [t] = acc ++ [t] := by
      refine both_snoc fun x hx => ?_
      have h4 := (List.pairwise_append.1 h2).1
      exact (List.pairwise_append.1 h4).2.2 x hx t (by simp)
    have hr : isRowF (acc ++ [t]) = true := row_sub h (List.sublist_append_left _ _)
    have hj : joinVF (.mk 3 []) (setV acc) (one3 t) = .ok (setV (acc ++ [t])) := by
      have := join_set (row_sub hr (List.sublist_append_left _ _)) (row_one (h3 t (by simp)))
      rw [hb, if_neg (by have := (row_iff.1 hr).1; omega)] at this
      exact this
    rw [List.map_cons, allGo, hj, e]
    exact allGo_set l _ h
theorem diff_set {A B : List Bs} (ha : isRowF A = true) (hb : isRowF B = true) (hl : A.length + B.length ≤ 40) (hal : A.length ≤ 30) : diffVF (.mk 3 []) (setV A) (setV B) = .ok (setV (B.filter fun t => !decide (t ∈ A))) := by
  unfold diffVF
  rw [leq_set ha hb (row_iff.1 ha).2.1 (row_iff.1 hb).2.1 hl, parts_set]
  have e : ((B.map one3).filter fun p => !leqB (.mk 3 []) (setV A) p) = (B.filter fun t => !decide (t ∈ A)).map one3 := by
    rw [List.filter_map]
    congr 1
    refine List.filter_congr fun t ht => ?_
    simp only [Function.comp]
    rw [leqB_set ha ((row_iff.1 hb).2.2 t ht) hal]
  show AllF _ _ = _
  rw [e]
  unfold AllF
  rw [if_pos (by decide)]
  have hB : BottomF (.mk 3 []) = setV [] := by unfold BottomF; rw [if_pos (by decide), bot_mk, if_neg (by decide)]; rfl
  rw [hB]
  exact allGo_set _ [] (row_sub hb List.filter_sublist)
end Go.Proofs.YtnfcnpdpfgcchaaGreat
end
section
set_option linter.unusedVariables false
set_option linter.unusedSimpArgs false
set_option maxRecDepth 20000
set_option maxHeartbeats 400000
namespace Go.Proofs.YtnfcnpdpfgcchaaGreat
open Go Go.MV
theorem Parts_at {s : Sch} {v : Val} {ps : List Val} (h : partsD 16 s v = ps) (ov : okV v) (hs : isF 16 s = true) (h7 : noK7 16 s = true) (hv : isVF s v = true) (hl : ps.length ≤ 1000000) (S : MS) : MCalls Tryz.prog 10 [encS s, encV v] S fun r σ' => r = .tup [.lst none 5 (encVs ps), .iface0] ∧ σ' = S := by
 subst h
 exact Parts_ok s v ov hs h7 hv hl S
theorem isV_setV {A : List Bs} (h : isRowF A = true) : isVF (.mk 3 []) (setV A) = true := by
 unfold setV
 rw [isVF_mk 3]
 simp [bareF, h, numsK, textsK, clocksK, valuesK, Val.nv, Val.mv, Val.sv, Val.cv, Val.vv]
theorem parts_set_at {A : List Bs} (h : isRowF A = true) (hl : A.length ≤ 1000000) (S : MS) : MCalls Tryz.prog 10 [encS (.mk 3 []), encV (setV A)] S fun r σ' => r = .tup [.lst none 5 (encVs (A.map one3)), .iface0] ∧ σ' = S :=
 Parts_at (parts_set 15 A) (okV_set A) (by decide) (by decide) (isV_setV h) (by simpa using hl) S
theorem diff_set_at {A B : List Bs} {r : Val} (ha : isRowF A = true) (hb : isRowF B = true) (hl : A.length + B.length ≤ 40) (hal : A.length ≤ 30) (hr : diffVF (.mk 3 []) (setV A) (setV B) = .ok r) (S : MS) : MCalls Tryz.prog 17 [encS (.mk 3 []), encV (setV A), encV (setV B)] S fun v σ' => v = .tup [encV r, .iface0] ∧ σ' = S :=
 Diff_ok (.mk 3 []) (setV A) (setV B) (okV_set A) (okV_set B) (by decide) (by decide) (isV_setV hb) _ (leq_set ha hb (row_iff.1 ha).2.1 (row_iff.1 hb).2.1 hl) (by rw [parts_set 15, List.length_map]; omega) r hr S
theorem rSame_true (a : Val) (S : MS) : MCalls Tryz.prog 12 [encV a, encV a] S fun v σ' => v = .bool true ∧ σ' = S := by
 refine (rSame_spec a a S).mono ?_
 rintro v σ' ⟨rfl, rfl⟩
 exact ⟨congrArg MV.bool (decide_eq_true rfl), rfl⟩
theorem kl_ab : isRowF [[97], [98]] = true ∧ isRowF [[97]] = true := by decide +kernel
theorem kl_d : diffVF (.mk 3 []) (setV [[97]]) (setV [[97], [98]]) = .ok (setV [[98]]) := by
 rw [diff_set kl_ab.2 kl_ab.1 (by decide) (by decide)]
 rfl
theorem lawOfP_spec (k : Int) (ins : List Sch) (S : MS) : MCalls Tryz.prog 16 [.int .i64 k, .lst none 2 (encSs ins)] S fun v σ' => v = encS (.mk k ins) ∧ σ' = S := by
 refine mcalls_body Tryz.func16 rfl Tryz.ntmps16 (Nat.le_of_ble_eq_true rfl) ?_
 refine mwp_seq <| qR rfl <| qO rfl <| op_alloc' rfl zm24 rfl rfl <| qN <| mwp_seq <| qR rfl <| qM rfl rfl rfl <| qM rfl rfl rfl <| qO rfl <| op_build rfl Tryz.underlying24 zm24 (.cons fo24_0 sz3 rfl rfl (Nat.le_of_ble_eq_true rfl) (.cons fo24_1 sz22 rfl rfl (Nat.le_of_ble_eq_true rfl) .nil)) (by kernel_rfl) ?_
 refine qO rfl <| op_store' rfl rfl rfl rfl sz24 rfl rfl (Nat.le_of_ble_eq_true rfl) rfl <| qN <| mwp_ret ?_
 exact ret_cell (y := encS (.mk k ins)) (.inr rfl) Tryz.results16 rfl rfl ta24 rfl (.refl _) (cl_encS _ _) ⟨rfl, rfl⟩
theorem knownP_spec (S : MS) : MCalls Tryz.prog 8 [] S fun v σ' => v = .bool true ∧ σ' = S := by
 refine mcalls_body Tryz.func8 rfl Tryz.ntmps8 (Nat.le_of_ble_eq_true rfl) ?_
 refine mwp_seq <| qR rfl <| qA rfl rfl rfl <| qN <| mwp_seq <| qR rfl <| qO rfl <| op_viewTo (y := encS (.mk 3 [])) (op_build rfl Tryz.underlying24 zm24 (.cons fo24_0 sz3 rfl rfl (Nat.le_of_ble_eq_true rfl) .nil) (by kernel_rfl) ⟨rfl, rfl⟩) (.agg (.cons (.refl _) (.cons (.nil 2) .nil))) ?_
 refine qO rfl <| op_alloc' rfl zm24 rfl rfl <| qO rfl <| op_store' rfl rfl rfl rfl sz24 rfl rfl (Nat.le_of_ble_eq_true rfl) rfl <| qN <| mwp_seq <| qR rfl <| qO rfl <| op_buildSlice rfl Tryz.underlying26 el9 rfl rfl (by decide) (by decide) rfl rfl ?_
 refine qO rfl <| op_viewTo (y := encV (setV [[97], [98]])) (op_build rfl Tryz.underlying30 zm30 (.cons fo30_2 sz26 rfl rfl (Nat.le_of_ble_eq_true rfl) .nil) (by kernel_rfl) ⟨rfl, rfl⟩) (.agg (.cons (.refl _) (.cons (.refl _) (.cons (.refl _) (.cons (.nil 1) (.cons (.nil 5) .nil)))))) ?_
 refine qO rfl <| op_alloc' rfl zm30 rfl rfl <| qO rfl <| op_store' rfl rfl rfl rfl sz30 rfl rfl (Nat.le_of_ble_eq_true rfl) rfl <| qN <| mwp_seq <| qR rfl <| qL rfl rfl rfl rfl ta24 rfl <| qL rfl rfl rfl rfl ta30 rfl ?_
 refine wOps_op rfl (op_call rfl rfl rfl co10 ((parts_set_at kl_ab.1 (by decide) _).mono ?_))
 rintro _ _ ⟨rfl, rfl⟩
 refine qM rfl rfl rfl <| qO rfl <| op_extract rfl rfl rfl <| qO rfl <| op_extract rfl rfl rfl <| qA rfl rfl rfl <| qA rfl rfl rfl <| qN <| mwp_seq <| qR rfl <| qL rfl rfl rfl rfl ta24 rfl <| qO rfl <| op_buildSlice rfl Tryz.underlying26 el9 rfl rfl (by decide) (by decide) rfl rfl ?_
 refine qO rfl <| op_viewTo (y := encV (setV [[97]])) (op_build rfl Tryz.underlying30 zm30 (.cons fo30_2 sz26 rfl rfl (Nat.le_of_ble_eq_true rfl) .nil) (by kernel_rfl) ⟨rfl, rfl⟩) (.agg (.cons (.refl _) (.cons (.refl _) (.cons (.refl _) (.cons (.nil 1) (.cons (.nil 5) .nil)))))) ?_
 refine qL rfl rfl rfl rfl ta30 rfl ?_
 refine wOps_op rfl (op_call rfl rfl rfl co17 ((diff_set_at kl_ab.2 kl_ab.1 (by decide) (by decide) kl_d _).mono ?_))
 rintro _ _ ⟨rfl, rfl⟩
 refine qM rfl rfl rfl <| qO rfl <| op_extract rfl rfl rfl <| qO rfl <| op_extract rfl rfl rfl <| qO rfl <| op_alloc' rfl zm30 rfl rfl <| qO rfl <| op_store' rfl rfl rfl rfl sz30 rfl rfl (Nat.le_of_ble_eq_true rfl) rfl <| qA rfl rfl rfl <| qN <| mwp_seq <| qR rfl <| qL rfl rfl rfl rfl ta24 rfl <| qO rfl <| op_viewTo (y := encV (.mk 1 0 [] [] [])) (op_build rfl Tryz.underlying30 zm30 (.cons fo30_0 sz25 rfl rfl (Nat.le_of_ble_eq_true rfl) .nil) (by kernel_rfl) ⟨rfl, rfl⟩) (.agg (.cons (.refl _) (.cons (.refl _) (.cons (.nil 1) (.cons (.nil 1) (.cons (.nil 5) .nil)))))) ?_
 refine wOps_op rfl (op_call rfl rfl rfl co10 ((Parts_bad (.mk 3 []) (.mk 1 0 [] [] []) (okV_num (by decide)) (by decide) _).mono ?_))
 rintro _ _ ⟨rfl, rfl⟩
 refine qM rfl rfl rfl <| qO rfl <| op_extract rfl rfl rfl <| qO rfl <| op_extract rfl rfl rfl <| qA rfl rfl rfl <| qA rfl rfl rfl <| qN <| mwp_seq <| qR rfl <| qL rfl rfl rfl rfl ta24 rfl <| qO rfl <| op_viewTo (y := encV (setV [])) (op_build rfl Tryz.underlying30 zm30 .nil (by kernel_rfl) ⟨rfl, rfl⟩) (.agg (.cons (.refl _) (.cons (.refl _) (.cons (.nil 1) (.cons (.nil 1) (.cons (.nil 5) .nil)))))) ?_
 refine wOps_op rfl (op_call rfl rfl rfl co10 ((parts_set_at (by decide) (by decide) _).mono ?_))
 rintro _ _ ⟨rfl, rfl⟩
 refine qM rfl rfl rfl <| qO rfl <| op_extract rfl rfl rfl <| qO rfl <| op_extract rfl rfl rfl <| qA rfl rfl rfl <| qA rfl rfl rfl <| qN <| mwp_seq ?_
 refine mwp_draw [] [_] mo (by decide) rfl rfl rfl rfl ?_
 refine dO rfl rfl rfl (op_move rfl rfl ⟨rfl, rfl⟩) <| dOps_op rfl rfl (.cons (op_if0 rfl Tryz.underlying34 rfl rfl (.inl ⟨rfl, rfl⟩) ⟨rfl, rfl⟩) .nil) <| dO rfl rfl rfl (op_move rfl rfl ⟨rfl, rfl⟩) <| dO rfl rfl rfl (op_move rfl rfl ⟨rfl, rfl⟩) <| dO rfl rfl rfl (op_len_lst rfl Tryz.underlying28 rfl ⟨rfl, rfl⟩) <| dO rfl rfl rfl (op_cmp rfl rfl rfl rfl ⟨rfl, rfl⟩) <| dO rfl rfl rfl (op_pick rfl rfl rfl ⟨rfl, rfl⟩) <| dO rfl rfl rfl (op_move rfl rfl ⟨rfl, rfl⟩) <| dO rfl rfl rfl (op_move rfl rfl ⟨rfl, rfl⟩) <| dO rfl rfl rfl (op_indexAddr rfl Tryz.underlying28 sz30 (by decide) rfl rfl rfl (show _ = some (encV (setV [[98]])) from rfl) ⟨rfl, rfl⟩) ?_
 refine dO rfl rfl rfl (op_load_sptr rfl rfl ta30 rfl ⟨rfl, rfl⟩) <| dO rfl rfl rfl (op_buildSlice rfl Tryz.underlying26 el9 rfl rfl (by decide) (by decide) rfl rfl ⟨rfl, rfl⟩) ?_
 refine dOps_op rfl rfl (.cons (op_viewTo (y := encV (setV [[98]])) (op_build rfl Tryz.underlying30 zm30 (.cons fo30_2 sz26 rfl rfl (Nat.le_of_ble_eq_true rfl) .nil) (by kernel_rfl) ⟨rfl, rfl⟩) (.agg (.cons (.refl _) (.cons (.refl _) (.cons (.refl _) (.cons (.nil 1) (.cons (.nil 5) .nil)))))) ⟨rfl, rfl⟩) .nil) ?_
 refine dOps_op rfl rfl (.cons (op_call rfl rfl rfl co12 (rSame_true (setV [[98]]) _)) .nil) <| dO rfl rfl rfl (op_pick rfl rfl rfl ⟨rfl, rfl⟩) <| dO rfl rfl rfl (op_move rfl rfl ⟨rfl, rfl⟩) <| dO rfl rfl rfl (op_move rfl rfl ⟨rfl, rfl⟩) <| dOps_op rfl rfl (.cons (op_if0 rfl Tryz.underlying34 rfl rfl (.inl ⟨rfl, rfl⟩) ⟨rfl, rfl⟩) .nil) <| dO rfl rfl rfl (op_pick rfl rfl rfl ⟨rfl, rfl⟩) <| dO rfl rfl rfl (op_move rfl rfl ⟨rfl, rfl⟩) <| dO rfl rfl rfl (op_load' rfl rfl rfl ta30 rfl ⟨rfl, rfl⟩) <| dO rfl rfl rfl (op_move rfl rfl ⟨rfl, rfl⟩) <| dO rfl rfl rfl (op_indexAddr rfl Tryz.underlying28 sz30 (by decide) rfl rfl rfl (show _ = some (encV (setV [[98]])) from rfl) ⟨rfl, rfl⟩) ?_
 refine dO rfl rfl rfl (op_load_sptr rfl rfl ta30 rfl ⟨rfl, rfl⟩) <| dOps_op rfl rfl (.cons (op_call rfl rfl rfl co12 (rSame_true (setV [[98]]) _)) .nil) <| dO rfl rfl rfl (op_pick rfl rfl rfl ⟨rfl, rfl⟩) <| dO rfl rfl rfl (op_move rfl rfl ⟨rfl, rfl⟩) <| dO rfl rfl rfl (op_move rfl rfl ⟨rfl, rfl⟩) <| dO rfl rfl rfl (op_makeInterface rfl rfl Tryz.underlying58 (by simp) ⟨rfl, rfl⟩) ?_
 refine dOps_op rfl rfl (.cons (op_call rfl rfl rfl co20 (errIs_spec 14 _)) .nil) <| dO rfl rfl rfl (op_pick rfl rfl rfl ⟨rfl, rfl⟩) <| dO rfl rfl rfl (op_move rfl rfl ⟨rfl, rfl⟩) <| dO rfl rfl rfl (op_move rfl rfl ⟨rfl, rfl⟩) <| dOps_op rfl rfl (.cons (op_if0 rfl Tryz.underlying34 rfl rfl (.inl ⟨rfl, rfl⟩) ⟨rfl, rfl⟩) .nil) <| dO rfl rfl rfl (op_pick rfl rfl rfl ⟨rfl, rfl⟩) <| dO rfl rfl rfl (op_move rfl rfl ⟨rfl, rfl⟩) <| dO rfl rfl rfl (op_move rfl rfl ⟨rfl, rfl⟩) <| dO rfl rfl rfl (op_len_lst rfl Tryz.underlying28 rfl ⟨rfl, rfl⟩) <| dO rfl rfl rfl (op_cmp rfl rfl rfl rfl ⟨rfl, rfl⟩) <| dO rfl rfl rfl (op_pick rfl rfl rfl ⟨rfl, rfl⟩) <| dO rfl rfl rfl (op_assign rfl rfl ⟨rfl, rfl⟩) <| dOps_nil <| mwp_ret ?_
 exact ret_tmp (.inr rfl) Tryz.results8 rfl (.of_eq (rfl)) (.bool _) ⟨rfl, rfl⟩
end Go.Proofs.YtnfcnpdpfgcchaaGreat
end
section
set_option linter.unusedVariables false
set_option linter.unusedSimpArgs false
set_option maxRecDepth 20000
set_option maxHeartbeats 400000
namespace Go.Proofs.YtnfcnpdpfgcchaaGreat
open Go Go.MV
def joinN : Nat → List Tk → List Tk → List Tk
 | 0, a, _ => a
 | _ + 1, [], b => b
 | _ + 1, x :: a, [] => x :: a
 | n + 1, x :: a, y :: b => if x.1 < y.1 then x :: joinN n a (y :: b) else if y.1 < x.1 then y :: joinN n (x :: a) b else (x.1, if y.2 > x.2 then y.2 else x.2) :: joinN n a b
theorem joinN_eq : ∀ (n : Nat) (a b : List Tk), a.length + b.length < n → joinN n a b = joinF a b
 | 0, a, b, h => by omega
 | n + 1, [], b, _ => by rw [joinN, nil_join]
 | n + 1, x :: a, [], _ => by rw [joinN, join_nil]
 | n + 1, x :: a, y :: b, h => by
  simp only [List.length_cons] at h
  rw [joinN, join_cons, joinN_eq n a (y :: b) (by simp only [List.length_cons]; omega), joinN_eq n (x :: a) b (by simp only [List.length_cons]; omega), joinN_eq n a b (by omega)]
  rfl
def cmpN (a b : List Tk) : Int := if a = b then 0 else if joinN (a.length + b.length + 1) a b = b then -1 else if joinN (a.length + b.length + 1) a b = a then 1 else 2
theorem cmpN_eq (a b : List Tk) : cmpF a b = cmpN a b := by unfold cmpN cmpF; rw [joinN_eq _ a b (by omega)]
def mrgN {κ : Type} (cmp : κ → κ → Int) : Nat → List (REnt κ) → List (REnt κ) → List (Ent κ)
 | 0, _, _ => []
 | _ + 1, [], [] => []
 | n + 1, x :: a, [] => (x.1, x.2, none) :: mrgN cmp n a []
 | n + 1, [], y :: b => (y.1, y.2, none) :: mrgN cmp n [] b
 | n + 1, x :: a, y :: b => if cmp x.1 y.1 < 0 then (x.1, x.2, none) :: mrgN cmp n a (y :: b) else if cmp y.1 x.1 < 0 then (y.1, y.2, none) :: mrgN cmp n (x :: a) b else (x.1, x.2, some y.2) :: mrgN cmp n a b
theorem mrgN_eq {κ : Type} (cmp : κ → κ → Int) : ∀ (n : Nat) (a b : List (REnt κ)), a.length + b.length < n → mrgN cmp n a b = mergeE cmp a b
 | 0, a, b, h => by omega
 | n + 1, [], [], _ => by rw [mrgN, mergeE]
 | n + 1, x :: a, [], h => by rw [mrgN, mergeE, mrgN_eq cmp n a [] (by simp at h ⊢; omega)]
 | n + 1, [], y :: b, h => by rw [mrgN, mergeE, mrgN_eq cmp n [] b (by simp at h ⊢; omega)]
 | n + 1, x :: a, y :: b, h => by
  simp only [List.length_cons] at h
  rw [mrgN, mergeE, mrgN_eq cmp n a (y :: b) (by simp only [List.length_cons]; omega), mrgN_eq cmp n (x :: a) b (by simp only [List.length_cons]; omega), mrgN_eq cmp n a b (by omega)]
def pairsN : List (List Tk) → Bool
 | [] => true
 | a :: l => (l.all fun b => decide (byTicksF a b < 0) && decide (cmpN a b = 2)) && pairsN l
theorem pairsN_eq : ∀ l : List (List Tk), pairsF l = pairsN l
 | [] => rfl
 | a :: l => by
  rw [pairsF, pairsN, pairsN_eq l]
  congr 2
  funext b
  rw [pairF, cmpN_eq]
def isSibN (v : Val) : Bool := bareF 8 v && decide (v.vv.length ≤ 40) && decide (v.cv.length ≤ 40) && (decide (v.cv.length = v.vv.length) && (v.cv.all isClockF && pairsN v.cv) && v.vv.all fun x => bareF 3 x && decide (x.vv.length ≤ 40) && decide (x.cv.length ≤ 40) && isRowF x.sv)
def sS : Sch := .mk 8 [.mk 3 []]
theorem isSibN_eq (v : Val) : isVF sS v = isSibN v := by
 obtain ⟨n, m, s, c, w⟩ := v
 unfold sS isSibN
 rw [isVF_mk 8]
 show isB 8 [.mk 3 []] _ _ = _
 simp only [isVL, isB, List.headD_cons, show ¬ ((8 : Int) = 1) by decide, show ¬ ((8 : Int) = 2) by decide, show ¬ ((8 : Int) = 3) by decide, show ¬ ((8 : Int) = 4) by decide, show ¬ ((8 : Int) = 5) by decide, show ¬ ((8 : Int) = 6) by decide, show ¬ ((8 : Int) = 7) by decide, if_false, isCauseF, pairsN_eq]
 congr 2
def topN (v w : Val) : List (Ent (List Tk)) := mrgN byTicksF ((entC v).length + (entC w).length + 1) (entC v) (entC w)
def outN (v w : Val) : List (Ent (List Tk)) := (topN v w).filter fun e => !(topN v w).any fun o => decide (cmpN e.1 o.1 = -1)
theorem outN_eq (v w : Val) : ((mergedC v w).filter fun e => !seenE (mergedC v w) e) = outN v w := by
 unfold outN
 rw [show topN v w = mergedC v w from mrgN_eq _ _ _ _ (by omega)]
 refine congrArg (fun f => List.filter f (mergedC v w)) (funext fun e => ?_)
 unfold seenE
 simp only [cmpN_eq]
def flatE : Val → Val → Bool
 | .mk n m s c [], .mk n2 m2 s2 c2 [] => decide (n = n2) && decide (m = m2) && decide (s = s2) && decide (c = c2)
 | _, _ => false
theorem flatE_eq : ∀ {a b : Val}, flatE a b = true → a = b
 | .mk n m s c [], .mk n2 m2 s2 c2 [], h => by simp [flatE] at h; simp [h]
 | .mk n m s c (x :: l), .mk n2 m2 s2 c2 [], h => by simp [flatE] at h
 | .mk n m s c [], .mk n2 m2 s2 c2 (x :: l), h => by simp [flatE] at h
 | .mk n m s c (x :: l), .mk n2 m2 s2 c2 (y :: l2), h => by simp [flatE] at h
def flatL : List Val → List Val → Bool
 | [], [] => true
 | x :: a, y :: b => flatE x y && flatL a b
 | _, _ => false
theorem flatL_eq : ∀ {a b : List Val}, flatL a b = true → a = b
 | [], [], _ => rfl
 | x :: a, y :: b, h => by rw [flatL, Bool.and_eq_true] at h; rw [flatE_eq h.1, flatL_eq h.2]
 | [], _ :: _, h => by cases h
 | _ :: _, [], h => by cases h
end Go.Proofs.YtnfcnpdpfgcchaaGreat
end
section
set_option linter.unusedVariables false
set_option linter.unusedSimpArgs false
set_option maxRecDepth 20000
set_option maxHeartbeats 400000
namespace Go.Proofs.YtnfcnpdpfgcchaaGreat
open Go Go.MV
def bothXN : Nat → List Bs → List Bs → List Bs
 | 0, _, _ => []
 | _ + 1, [], [] => []
 | n + 1, x :: a, [] => x :: bothXN n a []
 | n + 1, [], y :: b => y :: bothXN n [] b
 | n + 1, x :: a, y :: b => if Op.bytesLess x y then x :: bothXN n a (y :: b) else if Op.bytesLess y x then y :: bothXN n (x :: a) b else x :: bothXN n a b
theorem bothXN_eq : ∀ (n : Nat) (a b : List Bs), a.length + b.length < n → bothXN n a b = bothX a b
 | 0, a, b, h => by omega
 | n + 1, [], [], _ => by rw [bothXN, bothX]
 | n + 1, x :: a, [], h => by rw [bothXN, bothX, bothXN_eq n a [] (by simp at h ⊢; omega)]
 | n + 1, [], y :: b, h => by rw [bothXN, bothX, bothXN_eq n [] b (by simp at h ⊢; omega)]
 | n + 1, x :: a, y :: b, h => by
  simp only [List.length_cons] at h
  rw [bothXN, bothX, bothXN_eq n a (y :: b) (by simp only [List.length_cons]; omega), bothXN_eq n (x :: a) b (by simp only [List.length_cons]; omega), bothXN_eq n a b (by omega)]
def setJN : Val → Val → Option Val
 | .mk n1 m1 A c1 w1, .mk n2 m2 B c2 w2 => if n1 = 0 ∧ m1 = 0 ∧ n2 = 0 ∧ m2 = 0 ∧ c1 = [] ∧ c2 = [] ∧ w1.length = 0 ∧ w2.length = 0 ∧ (bothXN (A.length + B.length + 1) A B).length ≤ 40 then some (.mk 0 0 (bothXN (A.length + B.length + 1) A B) [] []) else none
theorem setJN_eq : ∀ {v w r : Val}, setJN v w = some r → bothF (.mk 3 []) v w = some r
 | .mk n1 m1 A c1 w1, .mk n2 m2 B c2 w2, r, h => by
  rw [setJN] at h
  split at h
  ·rename_i hc
   obtain ⟨rfl, rfl, rfl, rfl, rfl, rfl, e1, e2, hl⟩ := hc
   have e1 := List.eq_nil_of_length_eq_zero e1
   have e2 := List.eq_nil_of_length_eq_zero e2
   subst e1 e2
   rw [bothXN_eq _ _ _ (by omega)] at hl h
   rw [both_set, if_neg (by omega)]
   exact h
  ·cases h
def ofN (e : Ent (List Tk)) : Option Val := match e.2.2 with | none => some e.2.1 | some w => setJN e.2.1 w
def goN8 : List (Ent (List Tk)) → Option (List (List Tk × Val))
 | [] => some []
 | e :: l => match ofN e with
  | none => none
  | some v => match goN8 l with
   | none => none
   | some r => some ((e.1, v) :: r)
theorem goN8_eq : ∀ {l : List (Ent (List Tk))} {r : List (List Tk × Val)}, goN8 l = some r → goE (bothF (.mk 3 [])) l = some r
 | [], r, h => h
 | e :: l, r, h => by
  have ho : ∀ v, ofN e = some v → ofE (bothF (.mk 3 [])) e = some v := fun v hv => by
   obtain ⟨c, x, o⟩ := e
   cases o with
   | none => exact hv
   | some w => exact setJN_eq (v := x) (w := w) hv
  rw [goN8] at h
  split at h
  ·cases h
  ·rename_i v hv
   split at h
   ·cases h
   ·rename_i q hq
    rw [goE, ho v hv, goN8_eq hq]
    exact h
def joinN8 (v w : Val) : Option Val := match goN8 (outN v w) with
 | none => none
 | some l => if (!largeF (.mk 0 0 [] (l.map (·.1)) (l.map (·.2))) && isSibN v && isSibN w) = true then some (.mk 0 0 [] (l.map (·.1)) (l.map (·.2))) else none
theorem joinN8_eq {v w r : Val} (h : joinN8 v w = some r) : joinVF sS v w = .ok r := by
 unfold joinN8 at h
 split at h
 ·cases h
 ·rename_i l hl
  split at h
  ·rename_i hc
   simp only [Bool.and_eq_true, Bool.not_eq_true'] at hc
   obtain ⟨⟨h1, h2⟩, h3⟩ := hc
   refine join_ok_of (by decide) (by rw [isSibN_eq]; exact h2) (by rw [isSibN_eq]; exact h3) ?_
   rw [← h]
   unfold sS
   rw [bothF_mk, show bothB 8 (bothL [.mk 3 []]) v w = some (.mk 0 0 [] (l.map (·.1)) (l.map (·.2))) from ?_]
   ·exact cap_f h1
   ·show causesF (bothF (.mk 3 [])) v w = _
    rw [causesF, outN_eq, goN8_eq hl]
    rfl
  ·cases h
def sibE : Val → Val → Bool
 | .mk n m s c w, .mk n2 m2 s2 c2 w2 => decide (n = n2) && decide (m = m2) && decide (s = s2) && decide (c = c2) && flatL w w2
theorem sibE_eq : ∀ {a b : Val}, sibE a b = true → a = b
 | .mk n m s c w, .mk n2 m2 s2 c2 w2, h => by
  simp [sibE] at h
  obtain ⟨⟨⟨⟨rfl, rfl⟩, rfl⟩, rfl⟩, h⟩ := h
  rw [flatL_eq h]
def okN (o : Option Val) (e : Val) : Bool := match o with | some r => sibE r e | none => false
def neN (o : Option Val) (e : Val) : Bool := match o with | some r => !(decide (r.cv = e.cv) && decide (r.vv.map Val.sv = e.vv.map Val.sv)) | none => false
theorem okN_join {v w e : Val} (h : okN (joinN8 v w) e = true) : joinVF sS v w = .ok e := by
 unfold okN at h
 split at h
 ·rename_i r hr
  rw [← sibE_eq h]
  exact joinN8_eq hr
 ·cases h
theorem okN_leq {v e : Val} (h : okN (joinN8 v e) e = true) : leqVF sS v e = .ok true := by
 rw [leq_ok (okN_join h), decide_eq_true rfl]
theorem neN_leq {v e : Val} (h : neN (joinN8 v e) e = true) : leqVF sS v e = .ok false := by
 unfold neN at h
 split at h
 ·rename_i r hr
  rw [leq_ok (joinN8_eq hr), decide_eq_false]
  intro e2
  subst e2
  simp at h
 ·cases h
def pV (j : Nat) (A : List Bs) : Val := .mk 0 0 [] [[(1, (j : Int))]] [setV A]
def p3 : Val := .mk 0 0 [] [[(2, 1)]] [noV]
def bV (j : Nat) (A : List Bs) : Val := .mk 0 0 [] [[(1, (j : Int))], [(2, 1)]] [setV A, noV]
theorem okV_pV {j : Nat} (h : j < 100) (A : List Bs) : okV (pV j A) := by
 unfold pV
 refine okV_mk.2 ⟨by omega, by omega, fun x hx t ht => ?_, fun x hx => ?_⟩
 ·simp at hx
  subst hx
  simp at ht
  subst ht
  simp [okTk]
  omega
 ·simp at hx
  subst hx
  exact okV_set _
theorem okV_bV {j : Nat} (h : j < 100) (A : List Bs) : okV (bV j A) := by
 unfold bV
 refine okV_mk.2 ⟨by omega, by omega, fun x hx t ht => ?_, fun x hx => ?_⟩
 ·simp at hx
  rcases hx with rfl | rfl
  ·simp at ht
   subst ht
   simp [okTk]
   omega
  ·simp at ht
   subst ht
   simp [okTk]
 ·simp at hx
  rcases hx with rfl | rfl
  ·exact okV_set _
  ·exact okV_no_
theorem inner_ne {b x : Val} {f : Val → List Val} (h : ¬ b = x) : innerF b f x = f x := if_neg h
theorem inner_eq {b x : Val} {f : Val → List Val} (h : b = x) : innerF b f x = [x] := if_pos h
theorem parts_bV (d j : Nat) {A : List Bs} (hA : A ≠ []) : partsD (d + 2) sS (bV j A) = (A.map fun t => pV j [t]) ++ [p3] := by
 unfold bV
 rw [sS, parts_in (by rw [bot_mk, if_neg (by decide)]; unfold noV; intro e; injection e with _ _ _ e; cases e) (by simp)]
 show partAt _ 8 _ _ _ _ 0 ++ (partAt _ 8 _ _ _ _ 1 ++ []) = _
 unfold partAt
 simp only [show ¬ (8 : Int) = 4 by decide, show ¬ (8 : Int) = 5 by decide, if_false]
 rw [show ([Sch.mk 3 []] : List Sch).getD 0 nS = .mk 3 [] from rfl, show ([setV A, noV] : List Val).getD 0 noV = setV A from rfl, show ([setV A, noV] : List Val).getD 1 noV = noV from rfl]
 rw [inner_ne (by rw [bot_mk, if_neg (by decide)]; unfold noV setV; intro e; injection e with _ _ e; exact hA e.symm), inner_eq (by rw [bot_mk, if_neg (by decide)]), parts_set, List.map_map]
 rfl
def chk (k j : Nat) : Bool :=
 (if j < k then okN (joinN8 (pV j [[98]]) (pV k [[97]])) (pV k [[97]]) && okN (joinN8 (pV j [[99]]) (pV k [[97]])) (pV k [[97]]) else true) &&
 (if k < j then neN (joinN8 (pV j [[98]]) (pV k [[97]])) (pV k [[97]]) && neN (joinN8 (pV j [[99]]) (pV k [[97]])) (pV k [[97]]) else true) &&
 (if k = j then true else (joinN8 (pV k [[97]]) (bV j [[98], [99]])).isSome && isSibN (bV j [[98], [99]])) &&
 ((joinN8 (pV k [[97]]) (bV k [[97]])).isSome && isSibN (bV k [[97]]) && okN (joinN8 (pV k [[97]]) (pV k [[97]])) (pV k [[97]])) &&
 (neN (joinN8 p3 (pV k [[97]])) (pV k [[97]]) && okN (joinN8 noV p3) p3) &&
 (okN (joinN8 noV (pV j [[98]])) (pV j [[98]]) && okN (joinN8 (pV j [[98]]) (pV j [[99]])) (pV j [[98], [99]]) && okN (joinN8 (pV j [[98], [99]]) p3) (bV j [[98], [99]]))
theorem chk_all : ∀ k, k < 5 → ∀ j, j < 5 → chk (k + 1) (j + 1) = true := by decide +kernel
theorem isSome_leq {v e : Val} (h : (joinN8 v e).isSome = true) : ∃ l, leqVF sS v e = .ok l := by
 obtain ⟨r, hr⟩ := Option.isSome_iff_exists.1 h
 exact ⟨_, leq_ok (joinN8_eq hr)⟩
theorem leqB_of {a p : Val} {l : Bool} (h : leqVF sS p a = .ok l) : leqB sS a p = l := by unfold leqB; rw [h]
theorem diff_of {a b : Val} {l : Bool} (h : leqVF sS a b = .ok l) : diffVF sS a b = AllF sS ((partsD 16 sS b).filter fun p => !leqB sS a p) := by unfold diffVF; rw [h]
theorem allF_sS (l : List Val) : AllF sS l = allGo sS noV l := by
 unfold AllF
 rw [if_pos (by decide)]
 have hB : BottomF sS = noV := by unfold BottomF; rw [if_pos (by decide), sS, bot_mk, if_neg (by decide)]
 rw [hB]
theorem allGo_one {acc p r : Val} (h : joinVF sS acc p = .ok r) (l : List Val) : allGo sS acc (p :: l) = allGo sS r l := by rw [allGo, h]
def DiffIs (a b r : Val) : Prop := ∀ S : MS, MCalls Tryz.prog 17 [encS (.mk 8 [.mk 3 []]), encV a, encV b] S fun v σ' => v = .tup [encV r, .iface0] ∧ σ' = S
theorem diff_is {k j : Nat} {A : List Bs} {r : Val} {l : Bool} (hk : k < 100) (hj : j < 100) (hA : A ≠ []) (hl : A.length < 100) (hv : isSibN (bV j A) = true) (hle : leqVF sS (pV k [[97]]) (bV j A) = .ok l) (hr : diffVF sS (pV k [[97]]) (bV j A) = .ok r) : DiffIs (pV k [[97]]) (bV j A) r := fun S =>
 Diff_ok sS _ _ (okV_pV hk _) (okV_bV hj _) (by decide) (by decide) (by rw [isSibN_eq]; exact hv) l hle (by rw [parts_bV 14 j hA, List.length_append, List.length_map]; simp; omega) r hr S
theorem fl_yes {a p : Val} {l : List Val} (h : leqVF sS p a = .ok true) : (p :: l).filter (fun p => !leqB sS a p) = l.filter fun p => !leqB sS a p := by
 rw [List.filter_cons, leqB_of h]; rfl
theorem fl_no {a p : Val} {l : List Val} (h : leqVF sS p a = .ok false) : (p :: l).filter (fun p => !leqB sS a p) = p :: l.filter fun p => !leqB sS a p := by
 rw [List.filter_cons, leqB_of h]; rfl
theorem ver_lt {k j : Nat} (hk : k < 5) (hj : j < 5) (h : j < k) : DiffIs (pV (k + 1) [[97]]) (bV (j + 1) [[98], [99]]) p3 := by
 have hc := chk_all k hk j hj
 unfold chk at hc
 rw [if_pos (show j + 1 < k + 1 by omega), if_neg (show ¬ k + 1 < j + 1 by omega), if_neg (show ¬ k + 1 = j + 1 by omega)] at hc
 simp only [Bool.and_eq_true] at hc
 obtain ⟨⟨⟨⟨⟨h1, _⟩, h3⟩, _⟩, h4⟩, _⟩ := hc
 obtain ⟨l, hl⟩ := isSome_leq h3.1
 refine diff_is (by omega) (by omega) (by simp) (by simp) h3.2 hl ?_
 rw [diff_of hl, parts_bV 14 _ (by simp), allF_sS]
 show allGo sS noV ([pV (j + 1) [[98]], pV (j + 1) [[99]], p3].filter _) = _
 rw [fl_yes (okN_leq h1.1), fl_yes (okN_leq h1.2), fl_no (neN_leq h4.1), List.filter_nil, allGo_one (okN_join h4.2)]
 rfl
theorem ver_gt {k j : Nat} (hk : k < 5) (hj : j < 5) (h : k < j) : DiffIs (pV (k + 1) [[97]]) (bV (j + 1) [[98], [99]]) (bV (j + 1) [[98], [99]]) := by
 have hc := chk_all k hk j hj
 unfold chk at hc
 rw [if_neg (show ¬ j + 1 < k + 1 by omega), if_pos (show k + 1 < j + 1 by omega), if_neg (show ¬ k + 1 = j + 1 by omega)] at hc
 simp only [Bool.and_eq_true] at hc
 obtain ⟨⟨⟨⟨⟨_, h1⟩, h3⟩, _⟩, h4⟩, h5⟩ := hc
 obtain ⟨l, hl⟩ := isSome_leq h3.1
 refine diff_is (by omega) (by omega) (by simp) (by simp) h3.2 hl ?_
 rw [diff_of hl, parts_bV 14 _ (by simp), allF_sS]
 show allGo sS noV ([pV (j + 1) [[98]], pV (j + 1) [[99]], p3].filter _) = _
 rw [fl_no (neN_leq h1.1), fl_no (neN_leq h1.2), fl_no (neN_leq h4.1), List.filter_nil, allGo_one (okN_join h5.1.1), allGo_one (okN_join h5.1.2), allGo_one (okN_join h5.2)]
 rfl
theorem ver_eq {k : Nat} (hk : k < 5) : DiffIs (pV (k + 1) [[97]]) (bV (k + 1) [[97]]) p3 := by
 have hc := chk_all k hk k hk
 unfold chk at hc
 simp only [Bool.and_eq_true] at hc
 obtain ⟨⟨⟨_, h3⟩, h4⟩, _⟩ := hc
 obtain ⟨l, hl⟩ := isSome_leq h3.1.1
 refine diff_is (by omega) (by omega) (by simp) (by simp) h3.1.2 hl ?_
 rw [diff_of hl, parts_bV 14 _ (by simp), allF_sS]
 show allGo sS noV ([pV (k + 1) [[97]], p3].filter _) = _
 rw [fl_yes (okN_leq h3.2), fl_no (neN_leq h4.1), List.filter_nil, allGo_one (okN_join h4.2)]
 rfl
theorem ver_eqJ {k j : Nat} (hk : k < 5) (h : j = k) : DiffIs (pV (k + 1) [[97]]) (bV (j + 1) [[97]]) p3 := by subst h; exact ver_eq hk
theorem eqT {a b : Nat} (h : a = b) : intCmp .eql (a : Int) (b : Int) = some true := by rw [eqN', decide_eq_true h]
theorem eqF {a b : Nat} (h : ¬ a = b) : intCmp .eql (a : Int) (b : Int) = some false := by rw [eqN', decide_eq_false h]
theorem verLt_spec (n m : Nat) (h : m % 5 < n % 5) (S : MS) : MCalls Tryz.prog 7 [.int .u8 (n : Int), .int .u8 (m : Int)] S fun v σ' => v = .bool true ∧ σ' = S := by
 refine mcalls_body Tryz.func7 rfl Tryz.ntmps7 (Nat.le_of_ble_eq_true rfl) ?_
 refine mwp_seq <| qR rfl <| qA rfl rfl rfl <| qN <| mwp_seq <| mwp_seq <| qR rfl ?_
 refine wOps_op rfl (op_call rfl rfl rfl co8 ((knownP_spec _).mono ?_))
 rintro _ _ ⟨rfl, rfl⟩
 refine qO rfl <| op_not rfl rfl <| qN <| mwp_cond_f rfl (rfl) <| mwp_skip <| mwp_seq <| qR rfl ?_
 refine wOps_op rfl (op_call rfl rfl rfl co16 (((lawOfP_spec 3 [] _).sub (.cons (.refl _) (.cons (.nil 2) .nil))).mono ?_))
 rintro _ _ ⟨rfl, rfl⟩
 refine qO rfl <| op_buildSlice rfl Tryz.underlying22 el24 rfl rfl (by decide) (by decide) rfl rfl ?_
 refine wOps_op rfl (op_call rfl rfl rfl co16 ((lawOfP_spec 8 [.mk 3 []] _).mono ?_))
 rintro _ _ ⟨rfl, rfl⟩
 refine qO rfl <| op_alloc' rfl zm24 rfl rfl <| qO rfl <| op_store' rfl rfl rfl rfl sz24 rfl rfl (Nat.le_of_ble_eq_true rfl) rfl <| qN <| mwp_seq <| qR rfl <| qM rfl rfl rfl <| qO rfl <| op_rem rfl rfl rfl (by decide) (rem_nat n 5) ?_
 refine qO rfl <| op_convInt rfl Tryz.underlying5 Tryz.underlying25 rfl (u64_nat (show n % 5 < _ by omega)) ?_
 refine qO rfl <| op_arith rfl rfl rfl (uadd (a := n % 5) (b := 1) rfl (by omega)) ?_
 refine qM rfl rfl rfl <| qO rfl <| op_rem rfl rfl rfl (by decide) (rem_nat m 5) ?_
 refine qO rfl <| op_convInt rfl Tryz.underlying5 Tryz.underlying25 rfl (u64_nat (show m % 5 < _ by omega)) ?_
 refine qO rfl <| op_arith rfl rfl rfl (uadd (a := m % 5) (b := 1) rfl (by omega)) ?_
 refine qA rfl rfl rfl <| qA rfl rfl rfl <| qN <| mwp_seq <| qR rfl <| qM rfl rfl rfl <| qO rfl <| op_build rfl Tryz.underlying54 zm54 (.cons fo54_0 sz3 rfl rfl (Nat.le_of_ble_eq_true rfl) (.cons fo54_1 sz25 rfl rfl (Nat.le_of_ble_eq_true rfl) .nil)) (by kernel_rfl) ?_
 refine qO rfl <| op_buildSlice rfl Tryz.underlying55 el54 rfl rfl (by decide) (by decide) rfl rfl ?_
 refine qO rfl <| op_buildSlice rfl Tryz.underlying27 el55 rfl rfl (by decide) (by decide) rfl rfl ?_
 refine qO rfl <| op_buildSlice rfl Tryz.underlying26 el9 rfl rfl (by decide) (by decide) rfl rfl ?_
 refine qO rfl <| op_viewTo (y := encV (setV [[97]])) (op_build rfl Tryz.underlying30 zm30 (.cons fo30_2 sz26 rfl rfl (Nat.le_of_ble_eq_true rfl) .nil) (by kernel_rfl) ⟨rfl, rfl⟩) (.agg (.cons (.refl _) (.cons (.refl _) (.cons (.refl _) (.cons (.nil 1) (.cons (.nil 5) .nil)))))) ?_
 refine qO rfl <| op_buildSlice rfl Tryz.underlying28 el30 rfl rfl (by decide) (by decide) rfl rfl ?_
 refine qO rfl <| op_viewTo (y := encV (pV (n % 5 + 1) [[97]])) (op_build rfl Tryz.underlying30 zm30 (.cons fo30_3 sz27 rfl rfl (Nat.le_of_ble_eq_true rfl) (.cons fo30_4 sz28 rfl rfl (Nat.le_of_ble_eq_true rfl) .nil)) (by kernel_rfl) ⟨rfl, rfl⟩) (.agg (.cons (.refl _) (.cons (.refl _) (.cons (.nil 1) (.cons (.refl _) (.cons (.refl _) .nil)))))) ?_
 refine qO rfl <| op_alloc' rfl zm30 rfl rfl <| qO rfl <| op_store' rfl rfl rfl rfl sz30 rfl rfl (Nat.le_of_ble_eq_true rfl) rfl <| qN <| mwp_seq <| qR rfl <| qM rfl rfl rfl <| qO rfl <| op_build rfl Tryz.underlying54 zm54 (.cons fo54_0 sz3 rfl rfl (Nat.le_of_ble_eq_true rfl) (.cons fo54_1 sz25 rfl rfl (Nat.le_of_ble_eq_true rfl) .nil)) (by kernel_rfl) ?_
 refine qO rfl <| op_buildSlice rfl Tryz.underlying55 el54 rfl rfl (by decide) (by decide) rfl rfl ?_
 refine qO rfl <| op_build rfl Tryz.underlying54 zm54 (.cons fo54_0 sz3 rfl rfl (Nat.le_of_ble_eq_true rfl) (.cons fo54_1 sz25 rfl rfl (Nat.le_of_ble_eq_true rfl) .nil)) (by kernel_rfl) ?_
 refine qO rfl <| op_buildSlice rfl Tryz.underlying55 el54 rfl rfl (by decide) (by decide) rfl rfl ?_
 refine qO rfl <| op_buildSlice rfl Tryz.underlying27 el55 rfl rfl (by decide) (by decide) rfl rfl ?_
 refine qO rfl <| op_buildSlice rfl Tryz.underlying26 el9 rfl rfl (by decide) (by decide) rfl rfl ?_
 refine qO rfl <| op_viewTo (y := encV (setV [[98], [99]])) (op_build rfl Tryz.underlying30 zm30 (.cons fo30_2 sz26 rfl rfl (Nat.le_of_ble_eq_true rfl) .nil) (by kernel_rfl) ⟨rfl, rfl⟩) (.agg (.cons (.refl _) (.cons (.refl _) (.cons (.refl _) (.cons (.nil 1) (.cons (.nil 5) .nil)))))) ?_
 refine qO rfl <| op_viewTo (y := encV noV) (op_build rfl Tryz.underlying30 zm30 .nil (by kernel_rfl) ⟨rfl, rfl⟩) (.agg (.cons (.refl _) (.cons (.refl _) (.cons (.nil 1) (.cons (.nil 1) (.cons (.nil 5) .nil)))))) ?_
 refine qO rfl <| op_buildSlice rfl Tryz.underlying28 el30 rfl rfl (by decide) (by decide) rfl rfl ?_
 refine qO rfl <| op_viewTo (y := encV (bV (m % 5 + 1) [[98], [99]])) (op_build rfl Tryz.underlying30 zm30 (.cons fo30_3 sz27 rfl rfl (Nat.le_of_ble_eq_true rfl) (.cons fo30_4 sz28 rfl rfl (Nat.le_of_ble_eq_true rfl) .nil)) (by kernel_rfl) ⟨rfl, rfl⟩) (.agg (.cons (.refl _) (.cons (.refl _) (.cons (.nil 1) (.cons (.refl _) (.cons (.refl _) .nil)))))) ?_
 refine qO rfl <| op_alloc' rfl zm30 rfl rfl <| qO rfl <| op_store' rfl rfl rfl rfl sz30 rfl rfl (Nat.le_of_ble_eq_true rfl) rfl <| qN <| mwp_seq <| mwp_seq <| qR rfl <| qM rfl rfl rfl <| qM rfl rfl rfl <| qC rfl rfl rfl rfl (eqF (by omega)) ?_
 refine qN <| mwp_cond_f rfl (rfl) <| mwp_skip <| mwp_seq <| qR rfl <| qL rfl rfl rfl rfl ta24 rfl <| qL rfl rfl rfl rfl ta30 rfl <| qL rfl rfl rfl rfl ta30 rfl ?_
 refine wOps_op rfl (op_call rfl rfl rfl co17 (((ver_lt (by omega) (by omega) h) _).mono ?_))
 rintro _ _ ⟨rfl, rfl⟩
 refine qM rfl rfl rfl <| qO rfl <| op_extract rfl rfl rfl <| qO rfl <| op_extract rfl rfl rfl <| qO rfl <| op_alloc' rfl zm30 rfl rfl <| qO rfl <| op_store' rfl rfl rfl rfl sz30 rfl rfl (Nat.le_of_ble_eq_true rfl) rfl <| qA rfl rfl rfl <| qN <| mwp_seq <| mwp_seq <| qR rfl <| qM rfl rfl rfl <| qO rfl <| op_if0 rfl Tryz.underlying34 rfl rfl (.inr ⟨rfl, rfl⟩) <| qN <| mwp_cond_f rfl (rfl) <| mwp_skip <| mwp_seq <| mwp_seq <| qR rfl <| qM rfl rfl rfl <| qM rfl rfl rfl ?_
 refine qC rfl rfl rfl rfl (leqN_t (by omega)) ?_
 refine qN <| mwp_cond_t rfl (rfl) <| mwp_seq <| qR rfl <| qF rfl rfl rfl fo30_3 <| qL rfl rfl rfl rfl ta27 rfl <| qE rfl rfl Tryz.underlying27 rfl <| qC rfl rfl rfl rfl (eqlI rfl) <| qM rfl rfl rfl <| qF rfl rfl rfl fo30_3 <| qL rfl rfl rfl rfl ta27 rfl <| qO rfl <| op_indexAddr rfl Tryz.underlying27 sz55 (by decide) rfl rfl rfl (show _ = some (encC [(2, 1)]) from rfl) ?_
 refine qO rfl <| op_load_sptr rfl rfl ta55 rfl <| qO rfl <| op_indexAddr rfl Tryz.underlying55 sz54 (by decide) rfl rfl rfl (show _ = some (encT (2, 1)) from rfl) ?_
 refine qO rfl <| op_fieldAddr_sptr rfl rfl fo54_0 <| qO rfl <| op_load_sptr rfl rfl ta3 rfl <| qC rfl rfl rfl rfl (eqlI rfl) <| qP rfl rfl rfl rfl <| qA rfl rfl rfl <| qN <| mwp_ret ?_
 exact ret_tmp (.inr rfl) Tryz.results7 rfl (.of_eq (rfl)) (.bool _) ⟨rfl, rfl⟩
theorem verGt_spec (n m : Nat) (h : n % 5 < m % 5) (S : MS) : MCalls Tryz.prog 7 [.int .u8 (n : Int), .int .u8 (m : Int)] S fun v σ' => v = .bool true ∧ σ' = S := by
 refine mcalls_body Tryz.func7 rfl Tryz.ntmps7 (Nat.le_of_ble_eq_true rfl) ?_
 refine mwp_seq <| qR rfl <| qA rfl rfl rfl <| qN <| mwp_seq <| mwp_seq <| qR rfl ?_
 refine wOps_op rfl (op_call rfl rfl rfl co8 ((knownP_spec _).mono ?_))
 rintro _ _ ⟨rfl, rfl⟩
 refine qO rfl <| op_not rfl rfl <| qN <| mwp_cond_f rfl (rfl) <| mwp_skip <| mwp_seq <| qR rfl ?_
 refine wOps_op rfl (op_call rfl rfl rfl co16 (((lawOfP_spec 3 [] _).sub (.cons (.refl _) (.cons (.nil 2) .nil))).mono ?_))
 rintro _ _ ⟨rfl, rfl⟩
 refine qO rfl <| op_buildSlice rfl Tryz.underlying22 el24 rfl rfl (by decide) (by decide) rfl rfl ?_
 refine wOps_op rfl (op_call rfl rfl rfl co16 ((lawOfP_spec 8 [.mk 3 []] _).mono ?_))
 rintro _ _ ⟨rfl, rfl⟩
 refine qO rfl <| op_alloc' rfl zm24 rfl rfl <| qO rfl <| op_store' rfl rfl rfl rfl sz24 rfl rfl (Nat.le_of_ble_eq_true rfl) rfl <| qN <| mwp_seq <| qR rfl <| qM rfl rfl rfl <| qO rfl <| op_rem rfl rfl rfl (by decide) (rem_nat n 5) ?_
 refine qO rfl <| op_convInt rfl Tryz.underlying5 Tryz.underlying25 rfl (u64_nat (show n % 5 < _ by omega)) ?_
 refine qO rfl <| op_arith rfl rfl rfl (uadd (a := n % 5) (b := 1) rfl (by omega)) ?_
 refine qM rfl rfl rfl <| qO rfl <| op_rem rfl rfl rfl (by decide) (rem_nat m 5) ?_
 refine qO rfl <| op_convInt rfl Tryz.underlying5 Tryz.underlying25 rfl (u64_nat (show m % 5 < _ by omega)) ?_
 refine qO rfl <| op_arith rfl rfl rfl (uadd (a := m % 5) (b := 1) rfl (by omega)) ?_
 refine qA rfl rfl rfl <| qA rfl rfl rfl <| qN <| mwp_seq <| qR rfl <| qM rfl rfl rfl <| qO rfl <| op_build rfl Tryz.underlying54 zm54 (.cons fo54_0 sz3 rfl rfl (Nat.le_of_ble_eq_true rfl) (.cons fo54_1 sz25 rfl rfl (Nat.le_of_ble_eq_true rfl) .nil)) (by kernel_rfl) ?_
 refine qO rfl <| op_buildSlice rfl Tryz.underlying55 el54 rfl rfl (by decide) (by decide) rfl rfl ?_
 refine qO rfl <| op_buildSlice rfl Tryz.underlying27 el55 rfl rfl (by decide) (by decide) rfl rfl ?_
 refine qO rfl <| op_buildSlice rfl Tryz.underlying26 el9 rfl rfl (by decide) (by decide) rfl rfl ?_
 refine qO rfl <| op_viewTo (y := encV (setV [[97]])) (op_build rfl Tryz.underlying30 zm30 (.cons fo30_2 sz26 rfl rfl (Nat.le_of_ble_eq_true rfl) .nil) (by kernel_rfl) ⟨rfl, rfl⟩) (.agg (.cons (.refl _) (.cons (.refl _) (.cons (.refl _) (.cons (.nil 1) (.cons (.nil 5) .nil)))))) ?_
 refine qO rfl <| op_buildSlice rfl Tryz.underlying28 el30 rfl rfl (by decide) (by decide) rfl rfl ?_
 refine qO rfl <| op_viewTo (y := encV (pV (n % 5 + 1) [[97]])) (op_build rfl Tryz.underlying30 zm30 (.cons fo30_3 sz27 rfl rfl (Nat.le_of_ble_eq_true rfl) (.cons fo30_4 sz28 rfl rfl (Nat.le_of_ble_eq_true rfl) .nil)) (by kernel_rfl) ⟨rfl, rfl⟩) (.agg (.cons (.refl _) (.cons (.refl _) (.cons (.nil 1) (.cons (.refl _) (.cons (.refl _) .nil)))))) ?_
 refine qO rfl <| op_alloc' rfl zm30 rfl rfl <| qO rfl <| op_store' rfl rfl rfl rfl sz30 rfl rfl (Nat.le_of_ble_eq_true rfl) rfl <| qN <| mwp_seq <| qR rfl <| qM rfl rfl rfl <| qO rfl <| op_build rfl Tryz.underlying54 zm54 (.cons fo54_0 sz3 rfl rfl (Nat.le_of_ble_eq_true rfl) (.cons fo54_1 sz25 rfl rfl (Nat.le_of_ble_eq_true rfl) .nil)) (by kernel_rfl) ?_
 refine qO rfl <| op_buildSlice rfl Tryz.underlying55 el54 rfl rfl (by decide) (by decide) rfl rfl ?_
 refine qO rfl <| op_build rfl Tryz.underlying54 zm54 (.cons fo54_0 sz3 rfl rfl (Nat.le_of_ble_eq_true rfl) (.cons fo54_1 sz25 rfl rfl (Nat.le_of_ble_eq_true rfl) .nil)) (by kernel_rfl) ?_
 refine qO rfl <| op_buildSlice rfl Tryz.underlying55 el54 rfl rfl (by decide) (by decide) rfl rfl ?_
 refine qO rfl <| op_buildSlice rfl Tryz.underlying27 el55 rfl rfl (by decide) (by decide) rfl rfl ?_
 refine qO rfl <| op_buildSlice rfl Tryz.underlying26 el9 rfl rfl (by decide) (by decide) rfl rfl ?_
 refine qO rfl <| op_viewTo (y := encV (setV [[98], [99]])) (op_build rfl Tryz.underlying30 zm30 (.cons fo30_2 sz26 rfl rfl (Nat.le_of_ble_eq_true rfl) .nil) (by kernel_rfl) ⟨rfl, rfl⟩) (.agg (.cons (.refl _) (.cons (.refl _) (.cons (.refl _) (.cons (.nil 1) (.cons (.nil 5) .nil)))))) ?_
 refine qO rfl <| op_viewTo (y := encV noV) (op_build rfl Tryz.underlying30 zm30 .nil (by kernel_rfl) ⟨rfl, rfl⟩) (.agg (.cons (.refl _) (.cons (.refl _) (.cons (.nil 1) (.cons (.nil 1) (.cons (.nil 5) .nil)))))) ?_
 refine qO rfl <| op_buildSlice rfl Tryz.underlying28 el30 rfl rfl (by decide) (by decide) rfl rfl ?_
 refine qO rfl <| op_viewTo (y := encV (bV (m % 5 + 1) [[98], [99]])) (op_build rfl Tryz.underlying30 zm30 (.cons fo30_3 sz27 rfl rfl (Nat.le_of_ble_eq_true rfl) (.cons fo30_4 sz28 rfl rfl (Nat.le_of_ble_eq_true rfl) .nil)) (by kernel_rfl) ⟨rfl, rfl⟩) (.agg (.cons (.refl _) (.cons (.refl _) (.cons (.nil 1) (.cons (.refl _) (.cons (.refl _) .nil)))))) ?_
 refine qO rfl <| op_alloc' rfl zm30 rfl rfl <| qO rfl <| op_store' rfl rfl rfl rfl sz30 rfl rfl (Nat.le_of_ble_eq_true rfl) rfl <| qN <| mwp_seq <| mwp_seq <| qR rfl <| qM rfl rfl rfl <| qM rfl rfl rfl <| qC rfl rfl rfl rfl (eqF (by omega)) ?_
 refine qN <| mwp_cond_f rfl (rfl) <| mwp_skip <| mwp_seq <| qR rfl <| qL rfl rfl rfl rfl ta24 rfl <| qL rfl rfl rfl rfl ta30 rfl <| qL rfl rfl rfl rfl ta30 rfl ?_
 refine wOps_op rfl (op_call rfl rfl rfl co17 (((ver_gt (by omega) (by omega) h) _).mono ?_))
 rintro _ _ ⟨rfl, rfl⟩
 refine qM rfl rfl rfl <| qO rfl <| op_extract rfl rfl rfl <| qO rfl <| op_extract rfl rfl rfl <| qO rfl <| op_alloc' rfl zm30 rfl rfl <| qO rfl <| op_store' rfl rfl rfl rfl sz30 rfl rfl (Nat.le_of_ble_eq_true rfl) rfl <| qA rfl rfl rfl <| qN <| mwp_seq <| mwp_seq <| qR rfl <| qM rfl rfl rfl <| qO rfl <| op_if0 rfl Tryz.underlying34 rfl rfl (.inr ⟨rfl, rfl⟩) <| qN <| mwp_cond_f rfl (rfl) <| mwp_skip <| mwp_seq <| mwp_seq <| qR rfl <| qM rfl rfl rfl <| qM rfl rfl rfl ?_
 refine qC rfl rfl rfl rfl (leqN_f (by omega)) ?_
 refine qN <| mwp_cond_f rfl (rfl) <| mwp_skip <| mwp_seq <| qR rfl <| qL rfl rfl rfl rfl ta30 rfl <| qL rfl rfl rfl rfl ta30 rfl ?_
 refine wOps_op rfl (op_call rfl rfl rfl co12 ((rSame_true (bV (m % 5 + 1) [[98], [99]]) _).mono ?_))
 rintro _ _ ⟨rfl, rfl⟩
 refine qA rfl rfl rfl <| qN <| mwp_ret ?_
 exact ret_tmp (.inr rfl) Tryz.results7 rfl (.of_eq (rfl)) (.bool _) ⟨rfl, rfl⟩
theorem verEq_spec (n m : Nat) (h : m % 5 = n % 5) (S : MS) : MCalls Tryz.prog 7 [.int .u8 (n : Int), .int .u8 (m : Int)] S fun v σ' => v = .bool true ∧ σ' = S := by
 refine mcalls_body Tryz.func7 rfl Tryz.ntmps7 (Nat.le_of_ble_eq_true rfl) ?_
 refine mwp_seq <| qR rfl <| qA rfl rfl rfl <| qN <| mwp_seq <| mwp_seq <| qR rfl ?_
 refine wOps_op rfl (op_call rfl rfl rfl co8 ((knownP_spec _).mono ?_))
 rintro _ _ ⟨rfl, rfl⟩
 refine qO rfl <| op_not rfl rfl <| qN <| mwp_cond_f rfl (rfl) <| mwp_skip <| mwp_seq <| qR rfl ?_
 refine wOps_op rfl (op_call rfl rfl rfl co16 (((lawOfP_spec 3 [] _).sub (.cons (.refl _) (.cons (.nil 2) .nil))).mono ?_))
 rintro _ _ ⟨rfl, rfl⟩
 refine qO rfl <| op_buildSlice rfl Tryz.underlying22 el24 rfl rfl (by decide) (by decide) rfl rfl ?_
 refine wOps_op rfl (op_call rfl rfl rfl co16 ((lawOfP_spec 8 [.mk 3 []] _).mono ?_))
 rintro _ _ ⟨rfl, rfl⟩
 refine qO rfl <| op_alloc' rfl zm24 rfl rfl <| qO rfl <| op_store' rfl rfl rfl rfl sz24 rfl rfl (Nat.le_of_ble_eq_true rfl) rfl <| qN <| mwp_seq <| qR rfl <| qM rfl rfl rfl <| qO rfl <| op_rem rfl rfl rfl (by decide) (rem_nat n 5) ?_
 refine qO rfl <| op_convInt rfl Tryz.underlying5 Tryz.underlying25 rfl (u64_nat (show n % 5 < _ by omega)) ?_
 refine qO rfl <| op_arith rfl rfl rfl (uadd (a := n % 5) (b := 1) rfl (by omega)) ?_
 refine qM rfl rfl rfl <| qO rfl <| op_rem rfl rfl rfl (by decide) (rem_nat m 5) ?_
 refine qO rfl <| op_convInt rfl Tryz.underlying5 Tryz.underlying25 rfl (u64_nat (show m % 5 < _ by omega)) ?_
 refine qO rfl <| op_arith rfl rfl rfl (uadd (a := m % 5) (b := 1) rfl (by omega)) ?_
 refine qA rfl rfl rfl <| qA rfl rfl rfl <| qN <| mwp_seq <| qR rfl <| qM rfl rfl rfl <| qO rfl <| op_build rfl Tryz.underlying54 zm54 (.cons fo54_0 sz3 rfl rfl (Nat.le_of_ble_eq_true rfl) (.cons fo54_1 sz25 rfl rfl (Nat.le_of_ble_eq_true rfl) .nil)) (by kernel_rfl) ?_
 refine qO rfl <| op_buildSlice rfl Tryz.underlying55 el54 rfl rfl (by decide) (by decide) rfl rfl ?_
 refine qO rfl <| op_buildSlice rfl Tryz.underlying27 el55 rfl rfl (by decide) (by decide) rfl rfl ?_
 refine qO rfl <| op_buildSlice rfl Tryz.underlying26 el9 rfl rfl (by decide) (by decide) rfl rfl ?_
 refine qO rfl <| op_viewTo (y := encV (setV [[97]])) (op_build rfl Tryz.underlying30 zm30 (.cons fo30_2 sz26 rfl rfl (Nat.le_of_ble_eq_true rfl) .nil) (by kernel_rfl) ⟨rfl, rfl⟩) (.agg (.cons (.refl _) (.cons (.refl _) (.cons (.refl _) (.cons (.nil 1) (.cons (.nil 5) .nil)))))) ?_
 refine qO rfl <| op_buildSlice rfl Tryz.underlying28 el30 rfl rfl (by decide) (by decide) rfl rfl ?_
 refine qO rfl <| op_viewTo (y := encV (pV (n % 5 + 1) [[97]])) (op_build rfl Tryz.underlying30 zm30 (.cons fo30_3 sz27 rfl rfl (Nat.le_of_ble_eq_true rfl) (.cons fo30_4 sz28 rfl rfl (Nat.le_of_ble_eq_true rfl) .nil)) (by kernel_rfl) ⟨rfl, rfl⟩) (.agg (.cons (.refl _) (.cons (.refl _) (.cons (.nil 1) (.cons (.refl _) (.cons (.refl _) .nil)))))) ?_
 refine qO rfl <| op_alloc' rfl zm30 rfl rfl <| qO rfl <| op_store' rfl rfl rfl rfl sz30 rfl rfl (Nat.le_of_ble_eq_true rfl) rfl <| qN <| mwp_seq <| qR rfl <| qM rfl rfl rfl <| qO rfl <| op_build rfl Tryz.underlying54 zm54 (.cons fo54_0 sz3 rfl rfl (Nat.le_of_ble_eq_true rfl) (.cons fo54_1 sz25 rfl rfl (Nat.le_of_ble_eq_true rfl) .nil)) (by kernel_rfl) ?_
 refine qO rfl <| op_buildSlice rfl Tryz.underlying55 el54 rfl rfl (by decide) (by decide) rfl rfl ?_
 refine qO rfl <| op_build rfl Tryz.underlying54 zm54 (.cons fo54_0 sz3 rfl rfl (Nat.le_of_ble_eq_true rfl) (.cons fo54_1 sz25 rfl rfl (Nat.le_of_ble_eq_true rfl) .nil)) (by kernel_rfl) ?_
 refine qO rfl <| op_buildSlice rfl Tryz.underlying55 el54 rfl rfl (by decide) (by decide) rfl rfl ?_
 refine qO rfl <| op_buildSlice rfl Tryz.underlying27 el55 rfl rfl (by decide) (by decide) rfl rfl ?_
 refine qO rfl <| op_buildSlice rfl Tryz.underlying26 el9 rfl rfl (by decide) (by decide) rfl rfl ?_
 refine qO rfl <| op_viewTo (y := encV (setV [[98], [99]])) (op_build rfl Tryz.underlying30 zm30 (.cons fo30_2 sz26 rfl rfl (Nat.le_of_ble_eq_true rfl) .nil) (by kernel_rfl) ⟨rfl, rfl⟩) (.agg (.cons (.refl _) (.cons (.refl _) (.cons (.refl _) (.cons (.nil 1) (.cons (.nil 5) .nil)))))) ?_
 refine qO rfl <| op_viewTo (y := encV noV) (op_build rfl Tryz.underlying30 zm30 .nil (by kernel_rfl) ⟨rfl, rfl⟩) (.agg (.cons (.refl _) (.cons (.refl _) (.cons (.nil 1) (.cons (.nil 1) (.cons (.nil 5) .nil)))))) ?_
 refine qO rfl <| op_buildSliceW rfl Tryz.underlying28 el30 rfl rfl (by decide) (by decide) rfl rfl rfl ?_
 refine qO rfl <| op_build rfl Tryz.underlying30 zm30 (.cons fo30_3 sz27 rfl rfl (Nat.le_of_ble_eq_true rfl) (.cons fo30_4 sz28 rfl rfl (Nat.le_of_ble_eq_true rfl) .nil)) (by kernel_rfl) ?_
 refine qO rfl <| op_alloc' rfl zm30 rfl rfl <| qO rfl <| op_store' rfl rfl rfl rfl sz30 rfl rfl (Nat.le_of_ble_eq_true rfl) rfl <| qN <| mwp_seq <| mwp_seq <| qR rfl <| qM rfl rfl rfl <| qM rfl rfl rfl <| qC rfl rfl rfl rfl (eqT (by omega)) ?_
 refine qN <| mwp_cond_t rfl (rfl) ?_
 refine mwp_draw [7] [_, S ++ [.cells (encS (.mk 8 [.mk 3 []])).cells, .cells (encV (pV (n % 5 + 1) [[97]])).cells, .cells ((encV (setV [[97]])).cells ++ (encV noV).cells), .cells [.int .u64 0, .int .u64 0, .lst0, .lst none 1 [encC [(1, ((m % 5 + 1 : Nat) : Int))], encC [(2, 1)]], .vec (S.length + 2) 0 5 2 2]]] mo (by decide) rfl rfl rfl rfl ?_
 refine dO rfl rfl rfl (op_fieldAddr_ref rfl rfl fo30_4 ⟨rfl, rfl⟩) <| dO rfl rfl rfl (op_load' rfl rfl rfl ta28 rfl ⟨rfl, rfl⟩) <| dO rfl rfl rfl (op_fieldAddr_ref rfl rfl fo30_4 ⟨rfl, rfl⟩) <| dO rfl rfl rfl (op_load' rfl rfl rfl ta28 rfl ⟨rfl, rfl⟩) <| dO rfl rfl rfl (op_indexAddr rfl Tryz.underlying28 sz30 (by decide) rfl rfl rfl (show _ = some (encV (setV [[97]])) from rfl) ⟨rfl, rfl⟩) ?_
 refine dO rfl rfl rfl (op_load_sptr rfl rfl ta30 rfl ⟨rfl, rfl⟩) <| dO rfl rfl rfl (op_indexAddr_vec rfl Tryz.underlying28 sz30 rfl rfl (i := 0) rfl (by decide) ⟨rfl, rfl⟩) ?_
 refine dOps_eff rfl rfl rfl rfl (op_store (id := S.length + 2) rfl rfl rfl (by rw [getElem?_own]; rfl) sz30 rfl rfl (Nat.le_of_ble_eq_true rfl) ⟨rfl, by show List.set (S ++ ([.cells (encS (.mk 8 [.mk 3 []])).cells, .cells (encV (pV (n % 5 + 1) [[97]])).cells, .cells ((encV (setV [[98], [99]])).cells ++ (encV noV).cells), .cells [.int .u64 0, .int .u64 0, .lst0, .lst none 1 [encC [(1, ((m % 5 + 1 : Nat) : Int))], encC [(2, 1)]], .vec (S.length + 2) 0 5 2 2]] : MS)) (S.length + 2) (MObj.cells (setMany ((encV (setV [[98], [99]])).cells ++ (encV noV).cells) (0 + 0 * 5) (encV (setV [[97]])).cells)) = _; rw [set_own, set_two (encV_cells _) (encV_cells _) (encV_cells _) (by decide), if_pos rfl]; rfl⟩) ?_
 refine dOps_nil <| mwp_seq ?_
 refine mwp_freezeC (S.length + 3) 4 (id := S.length + 2) (m := 2) (sz := 5) (cap := 2) (xs := encVs [setV [[97]], noV]) (by rw [getElem?_own]; rfl) rfl (by rw [getElem?_own]; rfl) (by omega) (fl_two _ _) rfl (fun x hx => by rw [encVs_eq] at hx; obtain ⟨v, _, rfl⟩ := List.mem_map.1 hx; exact encV_cells v) (by simp [encV_cells]) (two_one _ _) ?_
 rw [set_own, set_own]
 refine qR rfl <| qL rfl rfl rfl rfl ta24 rfl <| qL rfl rfl rfl rfl ta30 rfl <| qO rfl <| op_viewTo (y := encV (bV (m % 5 + 1) [[97]])) (op_load' rfl rfl rfl ta30 rfl ⟨rfl, rfl⟩) (.agg (.cons (.refl _) (.cons (.refl _) (.cons (.nil 1) (.cons (.refl _) (.cons (.refl _) .nil)))))) ?_
 refine wOps_op rfl (op_call rfl rfl rfl co17 (((ver_eqJ (by omega) h) _).mono ?_))
 rintro _ _ ⟨rfl, rfl⟩
 refine qM rfl rfl rfl <| qO rfl <| op_extract rfl rfl rfl <| qO rfl <| op_extract rfl rfl rfl <| qO rfl <| op_alloc' rfl zm30 rfl rfl <| qO rfl <| op_store' rfl rfl rfl rfl sz30 rfl rfl (Nat.le_of_ble_eq_true rfl) rfl <| qA rfl rfl rfl <| qN <| mwp_seq <| mwp_seq <| qR rfl <| qM rfl rfl rfl <| qO rfl <| op_if0 rfl Tryz.underlying34 rfl rfl (.inr ⟨rfl, rfl⟩) <| qN <| mwp_cond_f rfl (rfl) <| mwp_skip <| mwp_seq <| mwp_seq <| qR rfl <| qM rfl rfl rfl <| qM rfl rfl rfl ?_
 refine qC rfl rfl rfl rfl (leqN_t (by omega)) ?_
 refine qN <| mwp_cond_t rfl (rfl) <| mwp_seq <| qR rfl <| qF rfl rfl rfl fo30_3 <| qL rfl rfl rfl rfl ta27 rfl <| qE rfl rfl Tryz.underlying27 rfl <| qC rfl rfl rfl rfl (eqlI rfl) <| qM rfl rfl rfl <| qF rfl rfl rfl fo30_3 <| qL rfl rfl rfl rfl ta27 rfl <| qO rfl <| op_indexAddr rfl Tryz.underlying27 sz55 (by decide) rfl rfl rfl (show _ = some (encC [(2, 1)]) from rfl) ?_
 refine qO rfl <| op_load_sptr rfl rfl ta55 rfl <| qO rfl <| op_indexAddr rfl Tryz.underlying55 sz54 (by decide) rfl rfl rfl (show _ = some (encT (2, 1)) from rfl) ?_
 refine qO rfl <| op_fieldAddr_sptr rfl rfl fo54_0 <| qO rfl <| op_load_sptr rfl rfl ta3 rfl <| qC rfl rfl rfl rfl (eqlI rfl) <| qP rfl rfl rfl rfl <| qA rfl rfl rfl <| qN <| mwp_ret ?_
 exact ret_tmp (.inr rfl) Tryz.results7 rfl (.of_eq (rfl)) (.bool _) ⟨rfl, rfl⟩
theorem PartsVersions_spec (n m : Nat) (S : MS) : MCalls Tryz.prog 7 [.int .u8 (n : Int), .int .u8 (m : Int)] S fun v σ' => v = .bool true ∧ σ' = S := by
 rcases Nat.lt_trichotomy (m % 5) (n % 5) with h | h | h
 ·exact verLt_spec n m h S
 ·exact verEq_spec n m h S
 ·exact verGt_spec n m h S
end Go.Proofs.YtnfcnpdpfgcchaaGreat
end
