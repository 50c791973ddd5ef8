/-
  Texts on which the proof of PartsCounts leans: part 6.
-/
import Derived.Test.YtnfcnpdpfgcchaaGreatPartsCountsE
section
set_option linter.unusedVariables false
set_option linter.unusedSimpArgs false
set_option maxRecDepth 20000
set_option maxHeartbeats 400000
namespace Go.Proofs.YtnfcnpdpfgcchaaGreat
open Go Go.MV
theorem cl_mono {o : MObj} {a b : Nat} (h : o.cl a) (hab : a ≤ b) : o.cl b := by
 cases o with
 | cells l => exact fun x hx => (h x hx).mono hab
 | loop s p ls => exact fun t x hx => (h t x hx).mono hab
 | row _ _ _ => exact trivial
 | mp es => exact fun e he => (h e he).mono hab
 | pin _ _ => exact trivial
 | tcells _ l => exact fun x hx => (h x hx).mono hab
 | orow _ _ _ l => exact fun x hx => (h x hx).mono hab
 | fixed _ _ => exact trivial
 | gone => exact trivial
theorem cls_mem {A : MS} (h : ClS A) {o : MObj} (ho : o ∈ A) {n : Nat} (hn : A.length ≤ n) : o.cl n := by
 obtain ⟨i, hi⟩ := List.getElem?_of_mem ho
 exact cl_mono (h i o hi) hn
theorem cls_two {A A' L : MS} (hl : A'.length = A.length) (h : ClS (A ++ L)) (h' : ClS A') {o : MObj} (ho : o ∈ A' ++ L) {n : Nat} (hn : (([] : MS) ++ (A ++ L)).length ≤ n) : o.cl n :=
 cls_mem (ClS.swap hl h h') ho (by simp [hl] at hn ⊢; omega)
theorem get_rtN {A A' L0 L' : MS} {x y c : MObj} (hl : A'.length = A.length) : (A' ++ (L0 ++ ((y :: L') ++ [c])))[((([] : MS) ++ (A ++ L0)) ++ x :: L').length]? = some c := by
 have e : A' ++ (L0 ++ ((y :: L') ++ [c])) = ((A' ++ L0) ++ y :: L') ++ [c] := by simp
 have e2 : ((([] : MS) ++ (A ++ L0)) ++ x :: L').length = ((A' ++ L0) ++ y :: L').length := by simp [hl]
 rw [e, e2]
 exact get_mid
theorem flat4 {A L0 L' : MS} {x c : MObj} : ((([] : MS) ++ (A ++ L0)) ++ x :: L') ++ [c] = A ++ (L0 ++ ((x :: L') ++ [c])) := by simp
theorem look2 {A A' L R : MS} {k : Nat} {o : MObj} (hl : A'.length = A.length) (h : L[k]? = some o) : (A' ++ (L ++ R))[A.length + k]? = some o := by
 rw [own_get hl]
 exact get_app h
abbrev okP (l0 : Nat) (F : List (Nat × MObj)) (σ : MS) : Prop := (σ.length = l0 ∧ Sees F σ) ∧ ClS σ
theorem each_at (s : Sch) (v : Val) {S L : MS} {k : Nat} (hL : L.length = k) : MCalls Tryz.prog 25 [encS s, encV v] (S ++ L) fun r σ' => r = .fn (.func 45) [] [.ref (S.length + k) 0, .ref (S.length + (k + 1)) 0] ∧ σ' = S ++ (L ++ [.cells (encS s).cells, .cells (encV v).cells]) := by
 refine (each_spec s v (S ++ L)).mono ?_
 rintro r σ' ⟨rfl, rfl⟩
 rw [List.length_append, hL, List.append_assoc]
 exact ⟨rfl, rfl⟩
def EachOk (s : Sch) (v : Val) (ys : List Val) : Prop := ∀ i1 i2, VIter 45 [.ref i1 0, .ref i2 0] ys [(i1, .cells (encS s).cells), (i2, .cells (encV v).cells)]
theorem within_give (s : Sch) (v : Val) (ys : List Val) (g : Val → Val) (ka : FuncId) (caps : List MV) (F : List (Nat × MObj)) (hco : CallOk Tryz.prog ka) (hit : EachOk s v ys) (hal : ∀ (p : Val) (S' : MS), Sees F S' → MCalls Tryz.prog ka ([] ++ [encV p] ++ caps) S' fun r σ' => r = encV (g p) ∧ σ' = S') (l0 : Nat) :
  GiveOk Tryz.prog 48 (fun id => [encS s, encV v, .fn (.func ka) [] caps, .yld id]) .bool (ys.map fun p => [encV (g p)]) (okP l0 F) := by
 intro id T m hok hm hyt hyf
 obtain ⟨k0, ins⟩ := s
 obtain ⟨n0, m0, s0, c0, w0⟩ := v
 have hT : ∀ j, (T j).length = l0 := fun j => (hok j).1.1
 have hT_ : ∀ j, (T j).length = (T 0).length := fun j => (hT j).trans (hT 0).symm
 refine mcalls_body Tryz.func48 rfl Tryz.ntmps48 (Nat.le_of_ble_eq_true rfl) ?_
 refine mwp_seq <| qR rfl <| qB rfl rfl rfl rfl rfl <| qB rfl rfl rfl rfl rfl <| qB rfl rfl rfl rfl rfl <| qB rfl rfl rfl rfl rfl <| qO rfl <| op_alloc' rfl zm4 rfl rfl <| qN <| mwp_seq <| mwp_seq <| qR rfl <| qL rfl rfl rfl rfl ta24 rfl <| qL rfl rfl rfl rfl ta30 rfl ?_
 refine wOps_op rfl (op_call rfl rfl rfl co25 ((each_at (.mk k0 ins) (.mk n0 m0 s0 c0 w0) rfl).mono ?_))
 rintro _ _ ⟨rfl, rfl⟩
 refine qN <| mwp_block ?_
 have hsee : ∀ (j : Nat) (X : MS), Sees [((T 0).length + 5, .cells (encS (.mk k0 ins)).cells), ((T 0).length + 6, .cells (encV (.mk n0 m0 s0 c0 w0)).cells)] ((([] : MS) ++ (T j ++ [.cells (encS (.mk k0 ins)).cells, .cells (encV (.mk n0 m0 s0 c0 w0)).cells, .cells [.fn (.func ka) [] caps], .cells [.yld id], .cells [.bool false], .cells (encS (.mk k0 ins)).cells, .cells (encV (.mk n0 m0 s0 c0 w0)).cells])) ++ X) := fun j X => .cons (get_app (by rw [List.nil_append, own_get (hT_ j)]; rfl)) (.cons (get_app (by rw [List.nil_append, own_get (hT_ j)]; rfl)) .nil)
 show mwp _ _ _ _ _ _ _ (T 0 ++ [.cells (encS (.mk k0 ins)).cells, .cells (encV (.mk n0 m0 s0 c0 w0)).cells, .cells [.fn (.func ka) [] caps], .cells [.yld id], .cells [.bool false], .cells (encS (.mk k0 ins)).cells, .cells (encV (.mk n0 m0 s0 c0 w0)).cells])
 refine mwp_facts fun _ hclW => ?_
 generalize hL0 : ([.cells (encS (.mk k0 ins)).cells, .cells (encV (.mk n0 m0 s0 c0 w0)).cells, .cells [.fn (.func ka) [] caps], .cells [.yld id], .cells [.bool false], .cells (encS (.mk k0 ins)).cells, .cells (encV (.mk n0 m0 s0 c0 w0)).cells] : MS) = L0 at hclW hsee
 have hl8 : L0.length = 7 := by rw [← hL0]; rfl
 show mwp _ _ _ _ _ _ _ (([] : MS) ++ (T 0 ++ L0))
 refine mwp_rangeC (L0 := _) .ret (.inl rfl) (fun j => decide (j ≠ m)) (fun j => T j ++ L0) (fun j => T j ++ L0) (fun j => T (j + 1) ++ L0) (fun j => by simp [hT j, hT 0]) (fun j => by simp [hT j, hT 0]) (fun j => by simp [hT (j + 1), hT 0]) rfl
  (fun j o ho n hn => cls_two ((hT j).trans (hT 0).symm) hclW (hok j).2 ho hn) (fun j o ho n hn => cls_two ((hT j).trans (hT 0).symm) hclW (hok j).2 ho hn) (fun j o ho n hn => cls_two ((hT (j + 1)).trans (hT 0).symm) hclW (hok (j + 1)).2 ho hn) rfl co45 rfl (by simp) ((hit ((T 0).length + 5) ((T 0).length + 6) ((T 0).length + 8)).two)
  (fun j => ⟨by simp [hT j, hT 0, hl8], hsee j _⟩) (fun j hj => rfl) (fun j s q => ⟨by simp [hT (j + 1), hT 0, hl8], hsee (j + 1) _⟩) rfl (fun y hy => by obtain ⟨i, _, rfl⟩ := List.mem_map.1 hy; rfl) ?_ ?_ ?_
 ·
  intro j y hy hbef L'
  have hy0 := hy
  rw [List.getElem?_map] at hy
  obtain ⟨p, hp, rfl⟩ := Option.map_eq_some_iff.1 hy
  obtain ⟨n1, m1, s1, c1, w1⟩ := p
  have hjl := (List.getElem?_eq_some_iff.1 hp).1
  have hyg : (ys.map fun p => [encV (g p)])[j]? = some [encV (g (.mk n1 m1 s1 c1 w1))] := by rw [List.getElem?_map, hp]; rfl
  have hjm : j ≤ m := by
   rcases Nat.lt_or_ge m j with h | h
   ·have := hbef m h
    simp at this
   ·exact h
  refine qR rfl <| qO rfl <| op_alloc rfl zm30 <| qO rfl <| op_store_last rfl rfl rfl sz30 rfl rfl (Nat.le_of_ble_eq_true rfl) <| qN ?_
  refine ⟨rfl, [_], rfl, ?_⟩
  rw [flat4]
  have hpc := @get_rtN (T 0) (T j) L0 L'
  refine mwp_abs fun R hR => ?_
  refine mwp_block <| mwp_seq ?_
  rcases Nat.lt_or_eq_of_le hjm with hjlt | hjeq
  ·
   refine mwp_draw [4] [_, T (j + 1) ++ R] mo (by decide) rfl rfl rfl rfl ?_
   refine dOps_op rfl rfl (.cons (op_load_ref rfl rfl (by rw [hR]; exact look2 (hT_ _) (k := 3) (by rw [← hL0]; rfl)) ta75 rfl ⟨rfl, rfl⟩) .nil) ?_
   refine dOps_op rfl rfl (.cons (op_load_ref rfl rfl (by rw [hR]; exact look2 (hT_ _) (k := 2) (by rw [← hL0]; rfl)) ta84 rfl ⟨rfl, rfl⟩) (.cons (op_load_ref rfl rfl (by rw [hR]; exact look2 (hT_ _) (k := 2) (by rw [← hL0]; rfl)) ta84 rfl ⟨rfl, rfl⟩) (.nil))) ?_
   refine dOps_op rfl rfl (.cons (op_viewTo (y := encV (.mk n1 m1 s1 c1 w1)) (op_load_ref rfl rfl (by rw [hR]; exact get_rtN ((hT_ _).trans (hT_ _).symm)) ta30 rfl ⟨rfl, rfl⟩) (.refl _) ⟨rfl, rfl⟩) (.cons (op_viewTo (y := encV (.mk n1 m1 s1 c1 w1)) (op_load_ref rfl rfl (by rw [hR]; exact get_rtN ((hT_ _).trans (hT_ _).symm)) ta30 rfl ⟨rfl, rfl⟩) (.refl _) ⟨rfl, rfl⟩) (.nil))) ?_
   refine dOps_op rfl rfl (.cons (op_call rfl rfl rfl hco (hal _ _ (.app (hok j).1.2))) .nil) <| dOps_eff rfl rfl rfl rfl (hyt j _ hjlt hyg R _ _ _ _ _ _ rfl rfl rfl) <| dO rfl rfl rfl (op_not rfl rfl ⟨rfl, rfl⟩) <| dOps_nil <| mwp_cond_f rfl (rfl) <| mwp_skip ?_
   exact .inl ⟨decide_eq_true (by omega), rfl, [_], by rw [hR]; exact flat4.symm⟩
  ·
   refine mwp_draw [4] [_, T (j + 1) ++ R] mo (by decide) rfl rfl rfl rfl ?_
   refine dOps_op rfl rfl (.cons (op_load_ref rfl rfl (by rw [hR]; exact look2 (hT_ _) (k := 3) (by rw [← hL0]; rfl)) ta75 rfl ⟨rfl, rfl⟩) .nil) ?_
   refine dOps_op rfl rfl (.cons (op_load_ref rfl rfl (by rw [hR]; exact look2 (hT_ _) (k := 2) (by rw [← hL0]; rfl)) ta84 rfl ⟨rfl, rfl⟩) (.cons (op_load_ref rfl rfl (by rw [hR]; exact look2 (hT_ _) (k := 2) (by rw [← hL0]; rfl)) ta84 rfl ⟨rfl, rfl⟩) (.nil))) ?_
   refine dOps_op rfl rfl (.cons (op_viewTo (y := encV (.mk n1 m1 s1 c1 w1)) (op_load_ref rfl rfl (by rw [hR]; exact get_rtN ((hT_ _).trans (hT_ _).symm)) ta30 rfl ⟨rfl, rfl⟩) (.refl _) ⟨rfl, rfl⟩) (.cons (op_viewTo (y := encV (.mk n1 m1 s1 c1 w1)) (op_load_ref rfl rfl (by rw [hR]; exact get_rtN ((hT_ _).trans (hT_ _).symm)) ta30 rfl ⟨rfl, rfl⟩) (.refl _) ⟨rfl, rfl⟩) (.nil))) ?_
   refine dOps_op rfl rfl (.cons (op_call rfl rfl rfl hco (hal _ _ (.app (hok j).1.2))) .nil) <| dOps_eff rfl rfl rfl rfl (hyf j _ hjeq hyg R _ _ _ _ _ _ rfl rfl rfl) <| dO rfl rfl rfl (op_not rfl rfl ⟨rfl, rfl⟩) <| dOps_nil <| mwp_cond_t rfl (rfl) <| mwp_seq <| qR rfl <| qO rfl <| op_store (id := (T 0).length + 4) rfl rfl rfl (by rw [hR]; exact look2 (hT_ _) (k := 4) (by rw [← hL0]; rfl)) sz4 rfl rfl (Nat.le_of_ble_eq_true rfl) ?_
   have hss : (T (j + 1) ++ R).set ((T 0).length + 4) (.cells (setMany [.bool false] 0 (MV.bool false).cells)) = T (j + 1) ++ R := set_self_ (by rw [hR]; exact look2 (hT_ _) (k := 4) (by rw [← hL0]; rfl))
   rw [hss]
   refine qN <| mwp_ret ?_
   exact .inr ⟨decide_eq_false (by omega), rfl, [_], by rw [hR]; exact flat4.symm⟩
 ·
  intro hall
  have hmm : m = ys.length := by
   rcases Nat.lt_or_ge m ys.length with h | h
   ·have := hall m (by simpa using h)
    simp at this
   ·simp at hm; omega
  show BlockM _ _ _ _ ((T _ ++ L0) ++ [.gone])
  have e1 : (ys.map fun p => [encV p]).length = m := by rw [List.length_map]; exact hmm.symm
  have e2 : (ys.map fun p => [encV (g p)]).length = m := by rw [List.length_map]; exact hmm.symm
  rw [List.append_assoc (T _) L0, e1, e2]
  refine mwp_seq <| qR rfl <| qO rfl <| op_store (id := (T 0).length + 4) rfl rfl rfl (by exact look2 (hT_ _) (k := 4) (by rw [← hL0]; rfl)) sz4 rfl rfl (Nat.le_of_ble_eq_true rfl) ?_
  rw [own_set (hT_ _), ← hL0]
  refine qN <| mwp_ret ?_
  exact ret_cellK (S' := T m) (hT_ _) (.inr rfl) Tryz.results48 rfl rfl ta4 rfl (.refl _) (.bool _) (hok _).2 ⟨by simp, by simp⟩
 ·
  intro j y hy hp
  have hjm : j = m := by simpa using hp
  subst hjm
  have hlt := (List.getElem?_eq_some_iff.1 hy).1
  rw [List.length_map] at hlt
  show BodyQ _ _ _ _ _ _ ((T (j + 1) ++ L0) ++ [.gone])
  rw [List.append_assoc (T (j + 1)) L0, ← hL0]
  exact ret_cellK (S' := T (j + 1)) (hT_ _) (.inr rfl) Tryz.results48 rfl rfl ta4 rfl (.refl _) (.bool _) (hok _).2 ⟨by simp; omega, by simp [hlt]⟩
end Go.Proofs.YtnfcnpdpfgcchaaGreat
end
section
set_option linter.unusedVariables false
set_option linter.unusedSimpArgs false
set_option maxRecDepth 20000
set_option maxHeartbeats 400000
namespace Go.Proofs.YtnfcnpdpfgcchaaGreat
open Go Go.MV
theorem map_one {l : List Val} {j : Nat} {x : Val} (h : l[j]? = some x) : (l.map fun p => [encV p])[j]? = some [encV x] := by rw [List.getElem?_map, h]; rfl
theorem _root_.Go.MV.Sees.hd {i : Nat} {o : MObj} {F : List (Nat × MObj)} {A : MS} (h : Sees ((i, o) :: F) A) : A[i]? = some o := h (i, o) (List.mem_cons_self ..)
theorem _root_.Go.MV.Sees.tl {p : Nat × MObj} {F : List (Nat × MObj)} {A : MS} (h : Sees (p :: F) A) : Sees F A := fun q hq => h q (List.mem_cons_of_mem _ hq)
theorem leaves_other {k : Int} (h : k ≠ 3) {v : Val} : leavesF k v = [v] := by cases v; simp [leavesF, h]
theorem okP_app {l0 n : Nat} {F F' : List (Nat × MObj)} {A J : MS} (h : okP l0 F A) (hn : J.length = n) (hF : Sees F' (A ++ J)) (hJ : ∀ o ∈ J, o.cl (A ++ J).length) : okP (l0 + n) F' (A ++ J) := ⟨⟨by rw [List.length_append, h.1.1, hn], hF⟩, h.2.app hJ⟩
theorem cl_int1 (n : Nat) (k : IntKind) (i : Int) : (MObj.cells [.int k i]).cl n := fun x hx => by
 simp at hx
 subst hx
 exact .int _ _
theorem cl_boxS (n : Nat) (s : Sch) : (MObj.cells (encS s).cells).cl n := fun x hx => by
 have := cl_encS n s
 obtain ⟨k, ins⟩ := s
 cases this with
 | agg _ h => exact h x hx
theorem cl_boxV (n : Nat) (v : Val) : (MObj.cells (encV v).cells).cl n := fun x hx => by
 have := cl_encV n v
 obtain ⟨_, _, _, _, _⟩ := v
 cases this with
 | agg _ h => exact h x hx
theorem leaves3_give (ins : List Sch) (v : Val) (F : List (Nat × MObj)) (l0 : Nat) : GiveOk Tryz.prog 51 (fun id => [encS (.mk 3 ins), encV v, .yld id]) .bool ((leavesF 3 v).map fun p => [encV p]) (okP l0 F) := by
 obtain ⟨n0, m0, s0, c0, w0⟩ := v
 intro id T m hok hm hyt hyf
 have hT : ∀ j, (T j).length = l0 := fun j => (hok j).1.1
 have hT_ : ∀ j, (T j).length = (T 0).length := fun j => (hT j).trans (hT 0).symm
 have hll : ((leavesF 3 (.mk n0 m0 s0 c0 w0)).map fun p => [encV p]).length = s0.length := by simp [leavesF]
 rw [hll] at hm ⊢
 refine mcalls_body Tryz.func51 rfl Tryz.ntmps51 (Nat.le_of_ble_eq_true rfl) ?_
 refine mwp_seq <| qR rfl <| qB rfl rfl rfl rfl rfl <| qB rfl rfl rfl rfl rfl <| qA rfl rfl rfl <| qN <| mwp_seq <| mwp_seq <| qR rfl <| qF rfl rfl rfl fo24_0 <| qL rfl rfl rfl rfl ta3 rfl <| qN <| mwp_block <| mwp_seq <| qR rfl <| qC rfl rfl rfl rfl (eqlQ rfl) <| qA rfl rfl rfl <| qN <| mwp_cond_t rfl (rfl) <| mwp_seq <| mwp_seq <| qR rfl <| qF rfl rfl rfl fo30_2 ?_
 refine qL rfl rfl rfl rfl ta26 rfl <| qE rfl rfl Tryz.underlying26 rfl <| qM rfl rfl rfl <| qN <| mwp_block ?_
 show mwp _ _ _ _ _ _ _ (([] : MS) ++ (T 0 ++ [.cells (encS (.mk 3 ins)).cells, .cells (encV (.mk n0 m0 s0 c0 w0)).cells]))
 refine mwp_len (t := 18) rfl fun hlen => ?_
 rw [List.length_map] at hlen
 refine mwp_loopK (α := Nat) [(2, _), (18, _), (19, _)] (fun i => [(20, .int .i64 (i : Int))]) (fun i => T i ++ [.cells (encS (.mk 3 ins)).cells, .cells (encV (.mk n0 m0 s0 c0 w0)).cells]) (fun i => i ≤ m ∧ i ≤ s0.length) (fun i => s0.length - i) (0) (.keep rfl (.keep rfl (.keep rfl (.nil)))) (.keep rfl (.nil)) (⟨by omega, by omega⟩) (rfl) ?_
 rintro i ⟨hi, his⟩
 refine mwp_seq <| qR rfl <| qC rfl rfl rfl rfl rfl <| qN <| mwp_seq ?_
 refine mwp_cond_split rfl (fun h21 => ?_) (fun h21 => ?_)
 ·
  have hlt : i < s0.length := by simpa using h21
  obtain ⟨t, hs⟩ : ∃ q_, s0[i]? = some q_ := ⟨_, List.getElem?_eq_getElem hlt⟩
  refine mwp_skip <| mwp_seq <| mwp_block <| mwp_seq <| qR rfl <| qO rfl <| op_indexAddr rfl Tryz.underlying26 sz9 (by decide) rfl rfl rfl (get_map hs) ?_
  refine qO rfl <| op_load_sptr rfl rfl ta9 rfl <| qA rfl rfl rfl <| qN <| mwp_seq ?_
  rcases Nat.lt_or_eq_of_le hi with hjm | hjm
  ·
   have hyi : (leavesF 3 (.mk n0 m0 s0 c0 w0))[i]? = some (.mk 0 0 [t] [] []) := by simp [leavesF, hs]
   refine qR rfl <| qM rfl rfl rfl <| qM rfl rfl rfl <| qO rfl <| op_buildSlice rfl Tryz.underlying26 el9 rfl rfl (by decide) (by decide) rfl rfl ?_
   refine qO rfl <| op_viewTo (y := encV (.mk 0 0 [t] [] [])) (op_build rfl Tryz.underlying30 zm30 (.cons fo30_2 sz26 rfl rfl (Nat.le_of_ble_eq_true rfl) .nil) (by kernel_rfl) ⟨rfl, rfl⟩) (.agg (.cons (.refl _) (.cons (.refl _) (.cons (.refl _) (.cons (.nil 1) (.cons (.nil 5) .nil)))))) ?_
   refine qO rfl <| (((hyt i _ hjm (map_one hyi)).frame [.cells (encS (.mk 3 ins)).cells, .cells (encV (.mk n0 m0 s0 c0 w0)).cells]).at0 rfl rfl rfl).mono ?_
   rintro _ _ ⟨rfl, rfl⟩
   refine qO rfl <| op_not rfl rfl <| qN <| mwp_cond_f rfl (rfl) <| mwp_skip <| qR rfl <| qO rfl <| op_arith rfl rfl rfl rfl <| qM rfl rfl rfl <| qN ?_
   refine ⟨i + 1, by omega, ⟨by omega, by omega⟩, rfl, (.keep rfl (.keep rfl (.keep rfl (.nil)))), (.eq rfl (int_succ hlt hlen) (.nil))⟩
  ·
   have hyi : (leavesF 3 (.mk n0 m0 s0 c0 w0))[i]? = some (.mk 0 0 [t] [] []) := by simp [leavesF, hs]
   refine qR rfl <| qM rfl rfl rfl <| qM rfl rfl rfl <| qO rfl <| op_buildSlice rfl Tryz.underlying26 el9 rfl rfl (by decide) (by decide) rfl rfl ?_
   refine qO rfl <| op_viewTo (y := encV (.mk 0 0 [t] [] [])) (op_build rfl Tryz.underlying30 zm30 (.cons fo30_2 sz26 rfl rfl (Nat.le_of_ble_eq_true rfl) .nil) (by kernel_rfl) ⟨rfl, rfl⟩) (.agg (.cons (.refl _) (.cons (.refl _) (.cons (.refl _) (.cons (.nil 1) (.cons (.nil 5) .nil)))))) ?_
   refine qO rfl <| (((hyf i _ hjm (map_one hyi)).frame [.cells (encS (.mk 3 ins)).cells, .cells (encV (.mk n0 m0 s0 c0 w0)).cells]).at0 rfl rfl rfl).mono ?_
   rintro _ _ ⟨rfl, rfl⟩
   refine qO rfl <| op_not rfl rfl <| qN <| mwp_cond_t rfl (rfl) <| mwp_seq <| qR rfl <| qA rfl rfl rfl <| qN <| mwp_ret ?_
   exact ret_tmpS (S' := T (i + 1)) (.inr rfl) Tryz.results51 rfl (.refl _) (.bool _) (by rw [hT_ (i + 1)]; exact Nat.le_refl _) (hok _).2 ⟨congrArg MV.bool (decide_eq_false (by omega)).symm, by rw [hjm, if_pos (by omega)]⟩
 ·
  have hge : i = s0.length := by simp at h21; omega
  refine mwp_exit <| mwp_seq <| qR rfl <| qA rfl rfl rfl <| qN <| mwp_ret ?_
  exact ret_tmpS (S' := T i) (.inr rfl) Tryz.results51 rfl (.refl _) (.bool _) (by rw [hT_ i]; exact Nat.le_refl _) (hok _).2 ⟨congrArg MV.bool (decide_eq_true (by omega)).symm, by rw [if_neg (by omega)]; congr 1; omega⟩
theorem leaves1_give (k : Int) (hk3 : k ≠ 3) (hk7 : k ≠ 7) (ins : List Sch) (v : Val) (F : List (Nat × MObj)) (l0 : Nat) : GiveOk Tryz.prog 51 (fun id => [encS (.mk k ins), encV v, .yld id]) .bool ((leavesF k v).map fun p => [encV p]) (okP l0 F) := by
 obtain ⟨n0, m0, s0, c0, w0⟩ := v
 intro id T m hok hm hyt hyf
 have hT : ∀ j, (T j).length = l0 := fun j => (hok j).1.1
 have hT_ : ∀ j, (T j).length = (T 0).length := fun j => (hT j).trans (hT 0).symm
 have hll : ((leavesF k (.mk n0 m0 s0 c0 w0)).map fun p => [encV p]).length = 1 := by rw [leaves_other hk3]; rfl
 have hyi : (leavesF k (.mk n0 m0 s0 c0 w0))[0]? = some (.mk n0 m0 s0 c0 w0) := by rw [leaves_other hk3]; rfl
 rw [hll] at hm ⊢
 refine mcalls_body Tryz.func51 rfl Tryz.ntmps51 (Nat.le_of_ble_eq_true rfl) ?_
 refine mwp_seq <| qR rfl <| qB rfl rfl rfl rfl rfl <| qB rfl rfl rfl rfl rfl <| qA rfl rfl rfl <| qN <| mwp_seq <| mwp_seq <| qR rfl <| qF rfl rfl rfl fo24_0 <| qL rfl rfl rfl rfl ta3 rfl <| qN <| mwp_block <| mwp_seq <| qR rfl <| qC rfl rfl rfl rfl (eqlN hk3) <| qA rfl rfl rfl <| qN <| mwp_cond_f rfl (rfl) <| mwp_seq <| qR rfl <| qC rfl rfl rfl rfl (eqlN hk7) ?_
 refine qA rfl rfl rfl <| qN <| mwp_cond_f rfl (rfl) <| mwp_skip <| mwp_seq ?_
 rcases Nat.lt_or_eq_of_le hm with hjm | hjm
 ·
  refine qR rfl <| qM rfl rfl rfl <| qO rfl <| op_viewTo (y := encV (.mk n0 m0 s0 c0 w0)) (op_load' rfl rfl rfl ta30 rfl ⟨rfl, rfl⟩) (.refl _) <| qO rfl <| (((hyf 0 _ (by omega) (map_one hyi)).frame [.cells (encS (.mk k ins)).cells, .cells (encV (.mk n0 m0 s0 c0 w0)).cells]).at0 rfl rfl rfl).mono ?_
  rintro _ _ ⟨rfl, rfl⟩
  refine qA rfl rfl rfl <| qN <| mwp_ret ?_
  exact ret_tmpS (S' := T 1) (.inr rfl) Tryz.results51 rfl (.refl _) (.bool _) (by rw [hT_ 1]; exact Nat.le_refl _) (hok _).2 ⟨congrArg MV.bool (decide_eq_false (by omega)).symm, by rw [if_pos (by omega)]; congr 1; omega⟩
 ·
  refine qR rfl <| qM rfl rfl rfl <| qO rfl <| op_viewTo (y := encV (.mk n0 m0 s0 c0 w0)) (op_load' rfl rfl rfl ta30 rfl ⟨rfl, rfl⟩) (.refl _) <| qO rfl <| (((hyt 0 _ (by omega) (map_one hyi)).frame [.cells (encS (.mk k ins)).cells, .cells (encV (.mk n0 m0 s0 c0 w0)).cells]).at0 rfl rfl rfl).mono ?_
  rintro _ _ ⟨rfl, rfl⟩
  refine qA rfl rfl rfl <| qN <| mwp_ret ?_
  exact ret_tmpS (S' := T 1) (.inr rfl) Tryz.results51 rfl (.refl _) (.bool _) (by rw [hT_ 1]; exact Nat.le_refl _) (hok _).2 ⟨congrArg MV.bool (decide_eq_true (by omega)).symm, by rw [if_neg (by omega)]; congr 1; omega⟩
theorem paired0_give (t1 t2 : Sch) (hs : isF 16 (.mk 5 [t1, t2]) = true) (h1 : isF 16 t1 = true) (h2 : isF 16 t2 = true) (n0 m0 : Int) (s0 : List Bs) (c0 : List (List Tk)) (x0 x1 : Val) (ys : List Val) (hit : EachOk t1 x0 ys) (F : List (Nat × MObj)) (l0 : Nat) : GiveOk Tryz.prog 49 (fun id => [encS (.mk 5 [t1, t2]), encV (.mk n0 m0 s0 c0 [x0, x1]), .int .i64 0, .yld id]) .bool (ys.map fun p => [encV ((fun p => .mk 0 0 [] [] [p, bottomF t2]) p)]) (okP l0 F) := by
 obtain ⟨k1, i1⟩ := t1
 obtain ⟨k2, i2⟩ := t2
 obtain ⟨na, ma, sa, ca, wa⟩ := x0
 obtain ⟨nb, mb, sb, cb, wb⟩ := x1
 intro id T m hok hm hyt hyf
 have hT : ∀ j, (T j).length = l0 := fun j => (hok j).1.1
 have hT_ : ∀ j, (T j).length = (T 0).length := fun j => (hT j).trans (hT 0).symm
 have hW := within_give (.mk k1 i1) (.mk na ma sa ca wa) ys (fun p => .mk 0 0 [] [] [p, bottomF (.mk k2 i2)]) 78 [.ref ((T 0).length + 0) 0, .ref ((T 0).length + 2) 0] [((T 0).length + 0, .cells (encS (.mk 5 [.mk k1 i1, .mk k2 i2])).cells), ((T 0).length + 2, .cells [.int .i64 0])] co78 hit (fun p S' hS => pairAlone0_spec _ _ hs h1 h2 p _ _ S' hS.hd hS.tl.hd) (l0 + 3)
 have hcall := (hW).use (a := 0) (M := m) (T := T) (J := [.cells (encS (.mk 5 [.mk k1 i1, .mk k2 i2])).cells, .cells (encV (.mk n0 m0 s0 c0 [.mk na ma sa ca wa, .mk nb mb sb cb wb])).cells, .cells [.int .i64 0]]) (fun j => okP_app (hok j) rfl (.cons (by rw [own_get (hT_ j)]; rfl) (.cons (by rw [own_get (hT_ j)]; rfl) .nil)) (fun o ho => by simp at ho; rcases ho with rfl | rfl | rfl <;> first | exact cl_boxS _ _ | exact cl_boxV _ _ | exact cl_int1 _ _ _)) (fun j y h => by rw [Nat.zero_add]; exact h) hyt hyf (Nat.zero_le _)
 rw [Nat.zero_add] at hcall
 simp only [List.length_map] at hcall hm ⊢
 refine mcalls_body Tryz.func49 rfl Tryz.ntmps49 (Nat.le_of_ble_eq_true rfl) ?_
 refine mwp_seq <| qR rfl <| qB rfl rfl rfl rfl rfl <| qB rfl rfl rfl rfl rfl <| qB rfl rfl rfl rfl rfl <| qA rfl rfl rfl <| qN <| mwp_seq <| qR rfl <| qO rfl <| op_makeFunc rfl rfl rfl <| qA rfl rfl rfl <| qN <| mwp_seq ?_
 refine mwp_draw [12] [_, T (if ys.length ≤ m then ys.length else m + 1) ++ [.cells (encS (.mk 5 [.mk k1 i1, .mk k2 i2])).cells, .cells (encV (.mk n0 m0 s0 c0 [.mk na ma sa ca wa, .mk nb mb sb cb wb])).cells, .cells [.int .i64 0]]] mo (by decide) rfl rfl rfl rfl ?_
 refine dOps_op rfl rfl (.cons (op_fieldAddr_ref rfl rfl fo24_1 ⟨rfl, rfl⟩) (.cons (op_fieldAddr_ref rfl rfl fo24_1 ⟨rfl, rfl⟩) (.nil))) <| dOps_op rfl rfl (.cons (op_load_ref rfl rfl ((own_get (hT_ _)).trans rfl) ta22 rfl ⟨rfl, rfl⟩) (.cons (op_load_ref rfl rfl ((own_get (hT_ _)).trans rfl) ta22 rfl ⟨rfl, rfl⟩) (.nil))) <| dOps_op rfl rfl (.cons (op_load_ref rfl rfl ((own_get (hT_ _)).trans rfl) ta3 rfl ⟨rfl, rfl⟩) (.cons (op_load_ref rfl rfl ((own_get (hT_ _)).trans rfl) ta3 rfl ⟨rfl, rfl⟩) (.nil))) <| dOps_op rfl rfl (.cons (op_indexAddr rfl Tryz.underlying22 sz24 (by decide) rfl rfl rfl (show _ = some (encS (.mk k1 i1)) from rfl) ⟨rfl, rfl⟩) (.cons (op_indexAddr rfl Tryz.underlying22 sz24 (by decide) rfl rfl rfl (show _ = some (encS (.mk k1 i1)) from rfl) ⟨rfl, rfl⟩) (.nil))) ?_
 refine dO rfl rfl rfl (op_load_sptr rfl rfl ta24 rfl ⟨rfl, rfl⟩) <| dOps_op rfl rfl (.cons (op_fieldAddr_ref rfl rfl fo30_4 ⟨rfl, rfl⟩) (.cons (op_fieldAddr_ref rfl rfl fo30_4 ⟨rfl, rfl⟩) (.nil))) <| dOps_op rfl rfl (.cons (op_load_ref rfl rfl ((own_get (hT_ _)).trans rfl) ta28 rfl ⟨rfl, rfl⟩) (.cons (op_load_ref rfl rfl ((own_get (hT_ _)).trans rfl) ta28 rfl ⟨rfl, rfl⟩) (.nil))) <| dOps_op rfl rfl (.cons (op_load_ref rfl rfl ((own_get (hT_ _)).trans rfl) ta3 rfl ⟨rfl, rfl⟩) (.cons (op_load_ref rfl rfl ((own_get (hT_ _)).trans rfl) ta3 rfl ⟨rfl, rfl⟩) (.nil))) <| dOps_op rfl rfl (.cons (op_indexAddr rfl Tryz.underlying28 sz30 (by decide) rfl rfl rfl (show _ = some (encV (.mk na ma sa ca wa)) from rfl) ⟨rfl, rfl⟩) (.cons (op_indexAddr rfl Tryz.underlying28 sz30 (by decide) rfl rfl rfl (show _ = some (encV (.mk na ma sa ca wa)) from rfl) ⟨rfl, rfl⟩) (.nil))) ?_
 refine dO rfl rfl rfl (op_load_sptr rfl rfl ta30 rfl ⟨rfl, rfl⟩) <| dO rfl rfl rfl (op_move rfl rfl ⟨rfl, rfl⟩) <| dO rfl rfl rfl (op_move rfl rfl ⟨rfl, rfl⟩) <| dOps_eff rfl rfl rfl rfl (op_call rfl rfl rfl co48 (hcall)) <| dO rfl rfl rfl (op_assign rfl rfl ⟨rfl, rfl⟩) <| dOps_nil <| mwp_ret ?_
 exact ret_tmpS (S' := T (if ys.length ≤ m then ys.length else m + 1)) (.inr rfl) Tryz.results49 rfl (.refl _) (.bool _) (Nat.le_of_eq (hT_ _).symm) (hok _).2 ⟨congrArg MV.bool (decide_eq_decide.2 ⟨fun h => by omega, fun h => by omega⟩), congrArg T (by split <;> split <;> omega)⟩
theorem paired1_give (t1 t2 : Sch) (hs : isF 16 (.mk 5 [t1, t2]) = true) (h1 : isF 16 t1 = true) (h2 : isF 16 t2 = true) (n0 m0 : Int) (s0 : List Bs) (c0 : List (List Tk)) (x0 x1 : Val) (ys : List Val) (hit : EachOk t2 x1 ys) (F : List (Nat × MObj)) (l0 : Nat) : GiveOk Tryz.prog 49 (fun id => [encS (.mk 5 [t1, t2]), encV (.mk n0 m0 s0 c0 [x0, x1]), .int .i64 1, .yld id]) .bool (ys.map fun p => [encV ((fun p => .mk 0 0 [] [] [bottomF t1, p]) p)]) (okP l0 F) := by
 obtain ⟨k1, i1⟩ := t1
 obtain ⟨k2, i2⟩ := t2
 obtain ⟨na, ma, sa, ca, wa⟩ := x0
 obtain ⟨nb, mb, sb, cb, wb⟩ := x1
 intro id T m hok hm hyt hyf
 have hT : ∀ j, (T j).length = l0 := fun j => (hok j).1.1
 have hT_ : ∀ j, (T j).length = (T 0).length := fun j => (hT j).trans (hT 0).symm
 have hW := within_give (.mk k2 i2) (.mk nb mb sb cb wb) ys (fun p => .mk 0 0 [] [] [bottomF (.mk k1 i1), p]) 78 [.ref ((T 0).length + 0) 0, .ref ((T 0).length + 2) 0] [((T 0).length + 0, .cells (encS (.mk 5 [.mk k1 i1, .mk k2 i2])).cells), ((T 0).length + 2, .cells [.int .i64 1])] co78 hit (fun p S' hS => pairAlone1_spec _ _ hs h1 h2 p _ _ S' hS.hd hS.tl.hd) (l0 + 3)
 have hcall := (hW).use (a := 0) (M := m) (T := T) (J := [.cells (encS (.mk 5 [.mk k1 i1, .mk k2 i2])).cells, .cells (encV (.mk n0 m0 s0 c0 [.mk na ma sa ca wa, .mk nb mb sb cb wb])).cells, .cells [.int .i64 1]]) (fun j => okP_app (hok j) rfl (.cons (by rw [own_get (hT_ j)]; rfl) (.cons (by rw [own_get (hT_ j)]; rfl) .nil)) (fun o ho => by simp at ho; rcases ho with rfl | rfl | rfl <;> first | exact cl_boxS _ _ | exact cl_boxV _ _ | exact cl_int1 _ _ _)) (fun j y h => by rw [Nat.zero_add]; exact h) hyt hyf (Nat.zero_le _)
 rw [Nat.zero_add] at hcall
 simp only [List.length_map] at hcall hm ⊢
 refine mcalls_body Tryz.func49 rfl Tryz.ntmps49 (Nat.le_of_ble_eq_true rfl) ?_
 refine mwp_seq <| qR rfl <| qB rfl rfl rfl rfl rfl <| qB rfl rfl rfl rfl rfl <| qB rfl rfl rfl rfl rfl <| qA rfl rfl rfl <| qN <| mwp_seq <| qR rfl <| qO rfl <| op_makeFunc rfl rfl rfl <| qA rfl rfl rfl <| qN <| mwp_seq ?_
 refine mwp_draw [12] [_, T (if ys.length ≤ m then ys.length else m + 1) ++ [.cells (encS (.mk 5 [.mk k1 i1, .mk k2 i2])).cells, .cells (encV (.mk n0 m0 s0 c0 [.mk na ma sa ca wa, .mk nb mb sb cb wb])).cells, .cells [.int .i64 1]]] mo (by decide) rfl rfl rfl rfl ?_
 refine dOps_op rfl rfl (.cons (op_fieldAddr_ref rfl rfl fo24_1 ⟨rfl, rfl⟩) (.cons (op_fieldAddr_ref rfl rfl fo24_1 ⟨rfl, rfl⟩) (.nil))) <| dOps_op rfl rfl (.cons (op_load_ref rfl rfl ((own_get (hT_ _)).trans rfl) ta22 rfl ⟨rfl, rfl⟩) (.cons (op_load_ref rfl rfl ((own_get (hT_ _)).trans rfl) ta22 rfl ⟨rfl, rfl⟩) (.nil))) <| dOps_op rfl rfl (.cons (op_load_ref rfl rfl ((own_get (hT_ _)).trans rfl) ta3 rfl ⟨rfl, rfl⟩) (.cons (op_load_ref rfl rfl ((own_get (hT_ _)).trans rfl) ta3 rfl ⟨rfl, rfl⟩) (.nil))) <| dOps_op rfl rfl (.cons (op_indexAddr rfl Tryz.underlying22 sz24 (by decide) rfl rfl rfl (show _ = some (encS (.mk k2 i2)) from rfl) ⟨rfl, rfl⟩) (.cons (op_indexAddr rfl Tryz.underlying22 sz24 (by decide) rfl rfl rfl (show _ = some (encS (.mk k2 i2)) from rfl) ⟨rfl, rfl⟩) (.nil))) ?_
 refine dO rfl rfl rfl (op_load_sptr rfl rfl ta24 rfl ⟨rfl, rfl⟩) <| dOps_op rfl rfl (.cons (op_fieldAddr_ref rfl rfl fo30_4 ⟨rfl, rfl⟩) (.cons (op_fieldAddr_ref rfl rfl fo30_4 ⟨rfl, rfl⟩) (.nil))) <| dOps_op rfl rfl (.cons (op_load_ref rfl rfl ((own_get (hT_ _)).trans rfl) ta28 rfl ⟨rfl, rfl⟩) (.cons (op_load_ref rfl rfl ((own_get (hT_ _)).trans rfl) ta28 rfl ⟨rfl, rfl⟩) (.nil))) <| dOps_op rfl rfl (.cons (op_load_ref rfl rfl ((own_get (hT_ _)).trans rfl) ta3 rfl ⟨rfl, rfl⟩) (.cons (op_load_ref rfl rfl ((own_get (hT_ _)).trans rfl) ta3 rfl ⟨rfl, rfl⟩) (.nil))) <| dOps_op rfl rfl (.cons (op_indexAddr rfl Tryz.underlying28 sz30 (by decide) rfl rfl rfl (show _ = some (encV (.mk nb mb sb cb wb)) from rfl) ⟨rfl, rfl⟩) (.cons (op_indexAddr rfl Tryz.underlying28 sz30 (by decide) rfl rfl rfl (show _ = some (encV (.mk nb mb sb cb wb)) from rfl) ⟨rfl, rfl⟩) (.nil))) ?_
 refine dO rfl rfl rfl (op_load_sptr rfl rfl ta30 rfl ⟨rfl, rfl⟩) <| dO rfl rfl rfl (op_move rfl rfl ⟨rfl, rfl⟩) <| dO rfl rfl rfl (op_move rfl rfl ⟨rfl, rfl⟩) <| dOps_eff rfl rfl rfl rfl (op_call rfl rfl rfl co48 (hcall)) <| dO rfl rfl rfl (op_assign rfl rfl ⟨rfl, rfl⟩) <| dOps_nil <| mwp_ret ?_
 exact ret_tmpS (S' := T (if ys.length ≤ m then ys.length else m + 1)) (.inr rfl) Tryz.results49 rfl (.refl _) (.bool _) (Nat.le_of_eq (hT_ _).symm) (hok _).2 ⟨congrArg MV.bool (decide_eq_decide.2 ⟨fun h => by omega, fun h => by omega⟩), congrArg T (by split <;> split <;> omega)⟩
theorem sib_give (k : Int) (t1 : Sch) (h1 : isF 16 t1 = true) (n0 m0 : Int) (s0 : List Bs) (c0 : List (List Tk)) (w0 : List Val) (i : Nat) (x : Val) (cx : List Tk) (hwx : w0[i]? = some x) (hcx : c0[i]? = some cx) (hi40 : i ≤ 1000) (ys : List Val) (hit : EachOk t1 x ys) (F : List (Nat × MObj)) (l0 : Nat) : GiveOk Tryz.prog 50 (fun id => [encS (.mk k [t1]), encV (.mk n0 m0 s0 c0 w0), .int .i64 (i : Int), .yld id]) .bool ((if bottomF t1 = x then [x] else ys).map fun p => [encV (.mk 0 0 [] [cx] [p])]) (okP l0 F) := by
 obtain ⟨k1, i1⟩ := t1
 obtain ⟨n1, m1, s1, c1, w1⟩ := x
 intro id T m hok hm hyt hyf
 have hT : ∀ j, (T j).length = l0 := fun j => (hok j).1.1
 have hT_ : ∀ j, (T j).length = (T 0).length := fun j => (hT j).trans (hT 0).symm
 have hW := within_give (.mk k1 i1) (.mk n1 m1 s1 c1 w1) ys (fun p => .mk 0 0 [] [cx] [p]) 79 [.ref ((T 0).length + 1) 0, .ref ((T 0).length + 2) 0] [((T 0).length + 1, .cells (encV (.mk n0 m0 s0 c0 w0)).cells), ((T 0).length + 2, .cells [.int .i64 (i : Int)])] co79 hit (fun p S' hS => sibAlone_spec n0 m0 s0 c0 w0 i cx hcx hi40 p _ _ S' hS.hd hS.tl.hd) (l0 + 3)
 have hcall := fun hyt hyf => (hW).use (id := id) (zs := ys.map fun p => [encV (.mk 0 0 [] [cx] [p])]) (a := 0) (M := m) (T := T) (J := [.cells (encS (.mk k [.mk k1 i1])).cells, .cells (encV (.mk n0 m0 s0 c0 w0)).cells, .cells [.int .i64 (i : Int)]]) (fun j => okP_app (hok j) rfl (.cons (by rw [own_get (hT_ j)]; rfl) (.cons (by rw [own_get (hT_ j)]; rfl) .nil)) (fun o ho => by simp at ho; rcases ho with rfl | rfl | rfl <;> first | exact cl_boxS _ _ | exact cl_boxV _ _ | exact cl_int1 _ _ _)) (fun j y h => by rw [Nat.zero_add]; exact h) hyt hyf (Nat.zero_le _)
 simp only [Nat.zero_add, List.length_map] at hcall
 refine mcalls_body Tryz.func50 rfl Tryz.ntmps50 (Nat.le_of_ble_eq_true rfl) ?_
 refine mwp_seq <| qR rfl <| qB rfl rfl rfl rfl rfl <| qB rfl rfl rfl rfl rfl <| qB rfl rfl rfl rfl rfl <| qA rfl rfl rfl <| qN <| mwp_seq <| qR rfl <| qO rfl <| op_makeFunc rfl rfl rfl <| qA rfl rfl rfl <| qN <| mwp_seq <| mwp_seq ?_
 by_cases hb : bottomF (.mk k1 i1) = (.mk n1 m1 s1 c1 w1)
 ·
  have hno : noneF (.mk k1 i1) (.mk n1 m1 s1 c1 w1) = true := by unfold noneF; rw [bot_eq h1 (Nat.le_refl _)]; exact decide_eq_true hb
  have hmm : m ≤ 1 := by rw [if_pos hb] at hm; simpa using hm
  rw [if_pos hb] at hyt hyf ⊢
  refine mwp_draw [] [_] mo (by decide) rfl rfl rfl rfl ?_
  refine dO rfl rfl rfl (op_fieldAddr_ref rfl rfl fo24_1 ⟨rfl, rfl⟩) <| dO rfl rfl rfl (op_load_ref rfl rfl ((own_get (hT_ _)).trans rfl) ta22 rfl ⟨rfl, rfl⟩) <| dO rfl rfl rfl (op_indexAddr rfl Tryz.underlying22 sz24 (by decide) rfl rfl rfl (show _ = some (encS (.mk k1 i1)) from rfl) ⟨rfl, rfl⟩) ?_
  refine dO rfl rfl rfl (op_load_sptr rfl rfl ta24 rfl ⟨rfl, rfl⟩) <| dO rfl rfl rfl (op_fieldAddr_ref rfl rfl fo30_4 ⟨rfl, rfl⟩) <| dO rfl rfl rfl (op_load_ref rfl rfl ((own_get (hT_ _)).trans rfl) ta28 rfl ⟨rfl, rfl⟩) <| dO rfl rfl rfl (op_load_ref rfl rfl ((own_get (hT_ _)).trans rfl) ta3 rfl ⟨rfl, rfl⟩) <| dO rfl rfl rfl (op_indexAddr rfl Tryz.underlying28 sz30 (by decide) rfl rfl rfl (encVs_get hwx) ⟨rfl, rfl⟩) ?_
  refine dO rfl rfl rfl (op_load_sptr rfl rfl ta30 rfl ⟨rfl, rfl⟩) <| dOps_op rfl rfl (.cons (op_call rfl rfl rfl co46 (None_spec (.mk k1 i1) (.mk n1 m1 s1 c1 w1) _)) .nil) ?_
  rw [hno]
  refine dOps_nil <| mwp_cond_t rfl (rfl) <| mwp_seq ?_
  rcases Nat.lt_or_eq_of_le hmm with hjm | hjm
  ·
   refine qR rfl <| qM rfl rfl rfl <| qM rfl rfl rfl <| qF rfl rfl rfl fo30_4 <| qO rfl <| op_load_ref rfl rfl ((own_get (hT_ _)).trans rfl) ta28 rfl <| qO rfl <| op_load_ref rfl rfl ((own_get (hT_ _)).trans rfl) ta3 rfl <| qO rfl <| op_indexAddr rfl Tryz.underlying28 sz30 (by decide) rfl rfl rfl (encVs_get hwx) ?_
   refine qO rfl <| op_viewTo (y := encV (.mk n1 m1 s1 c1 w1)) (op_load_sptr rfl rfl ta30 rfl ⟨rfl, rfl⟩) (.refl _) ?_
   refine wOps_op rfl (op_call rfl rfl rfl co79 ((sibAlone_spec n0 m0 s0 c0 w0 i cx hcx hi40 (.mk n1 m1 s1 c1 w1) _ _ _ ((own_get (hT_ _)).trans rfl) ((own_get (hT_ _)).trans rfl)).mono ?_))
   rintro _ _ ⟨rfl, rfl⟩
   refine qO rfl <| (((hyf 0 _ (by omega) rfl).frame [.cells (encS (.mk k [.mk k1 i1])).cells, .cells (encV (.mk n0 m0 s0 c0 w0)).cells, .cells [.int .i64 (i : Int)]]).at0 rfl rfl rfl).mono ?_
   rintro _ _ ⟨rfl, rfl⟩
   refine qA rfl rfl rfl <| qN <| mwp_ret ?_
   exact ret_tmpS (S' := T 1) (.inr rfl) Tryz.results50 rfl (.refl _) (.bool _) (Nat.le_of_eq (hT_ _).symm) (hok _).2 ⟨congrArg MV.bool (decide_eq_false (by simp; omega)).symm, by rw [if_pos (by simp; omega)]; congr 1; omega⟩
  ·
   refine qR rfl <| qM rfl rfl rfl <| qM rfl rfl rfl <| qF rfl rfl rfl fo30_4 <| qO rfl <| op_load_ref rfl rfl ((own_get (hT_ _)).trans rfl) ta28 rfl <| qO rfl <| op_load_ref rfl rfl ((own_get (hT_ _)).trans rfl) ta3 rfl <| qO rfl <| op_indexAddr rfl Tryz.underlying28 sz30 (by decide) rfl rfl rfl (encVs_get hwx) ?_
   refine qO rfl <| op_viewTo (y := encV (.mk n1 m1 s1 c1 w1)) (op_load_sptr rfl rfl ta30 rfl ⟨rfl, rfl⟩) (.refl _) ?_
   refine wOps_op rfl (op_call rfl rfl rfl co79 ((sibAlone_spec n0 m0 s0 c0 w0 i cx hcx hi40 (.mk n1 m1 s1 c1 w1) _ _ _ ((own_get (hT_ _)).trans rfl) ((own_get (hT_ _)).trans rfl)).mono ?_))
   rintro _ _ ⟨rfl, rfl⟩
   refine qO rfl <| (((hyt 0 _ (by omega) rfl).frame [.cells (encS (.mk k [.mk k1 i1])).cells, .cells (encV (.mk n0 m0 s0 c0 w0)).cells, .cells [.int .i64 (i : Int)]]).at0 rfl rfl rfl).mono ?_
   rintro _ _ ⟨rfl, rfl⟩
   refine qA rfl rfl rfl <| qN <| mwp_ret ?_
   exact ret_tmpS (S' := T 1) (.inr rfl) Tryz.results50 rfl (.refl _) (.bool _) (Nat.le_of_eq (hT_ _).symm) (hok _).2 ⟨congrArg MV.bool (decide_eq_true (by simp; omega)).symm, by rw [if_neg (by simp; omega)]; congr 1; omega⟩
 ·
  have hno : noneF (.mk k1 i1) (.mk n1 m1 s1 c1 w1) = false := by unfold noneF; rw [bot_eq h1 (Nat.le_refl _)]; exact decide_eq_false hb
  rw [if_neg hb] at hm hyt hyf ⊢
  replace hcall := hcall hyt hyf
  rw [List.length_map] at hm
  refine mwp_draw [] [_] mo (by decide) rfl rfl rfl rfl ?_
  refine dO rfl rfl rfl (op_fieldAddr_ref rfl rfl fo24_1 ⟨rfl, rfl⟩) <| dO rfl rfl rfl (op_load_ref rfl rfl ((own_get (hT_ _)).trans rfl) ta22 rfl ⟨rfl, rfl⟩) <| dO rfl rfl rfl (op_indexAddr rfl Tryz.underlying22 sz24 (by decide) rfl rfl rfl (show _ = some (encS (.mk k1 i1)) from rfl) ⟨rfl, rfl⟩) ?_
  refine dO rfl rfl rfl (op_load_sptr rfl rfl ta24 rfl ⟨rfl, rfl⟩) <| dO rfl rfl rfl (op_fieldAddr_ref rfl rfl fo30_4 ⟨rfl, rfl⟩) <| dO rfl rfl rfl (op_load_ref rfl rfl ((own_get (hT_ _)).trans rfl) ta28 rfl ⟨rfl, rfl⟩) <| dO rfl rfl rfl (op_load_ref rfl rfl ((own_get (hT_ _)).trans rfl) ta3 rfl ⟨rfl, rfl⟩) <| dO rfl rfl rfl (op_indexAddr rfl Tryz.underlying28 sz30 (by decide) rfl rfl rfl (encVs_get hwx) ⟨rfl, rfl⟩) ?_
  refine dO rfl rfl rfl (op_load_sptr rfl rfl ta30 rfl ⟨rfl, rfl⟩) <| dOps_op rfl rfl (.cons (op_call rfl rfl rfl co46 (None_spec (.mk k1 i1) (.mk n1 m1 s1 c1 w1) _)) .nil) ?_
  rw [hno]
  refine dOps_nil <| mwp_cond_f rfl (rfl) <| mwp_skip <| mwp_seq ?_
  refine mwp_draw [11] [_, T (if ys.length ≤ m then ys.length else m + 1) ++ [.cells (encS (.mk k [.mk k1 i1])).cells, .cells (encV (.mk n0 m0 s0 c0 w0)).cells, .cells [.int .i64 (i : Int)]]] mo (by decide) rfl rfl rfl rfl ?_
  refine dOps_op rfl rfl (.cons (op_fieldAddr_ref rfl rfl fo24_1 ⟨rfl, rfl⟩) (.cons (op_fieldAddr_ref rfl rfl fo24_1 ⟨rfl, rfl⟩) (.nil))) <| dOps_op rfl rfl (.cons (op_load_ref rfl rfl ((own_get (hT_ _)).trans rfl) ta22 rfl ⟨rfl, rfl⟩) (.cons (op_load_ref rfl rfl ((own_get (hT_ _)).trans rfl) ta22 rfl ⟨rfl, rfl⟩) (.nil))) <| dOps_op rfl rfl (.cons (op_indexAddr rfl Tryz.underlying22 sz24 (by decide) rfl rfl rfl (show _ = some (encS (.mk k1 i1)) from rfl) ⟨rfl, rfl⟩) (.cons (op_indexAddr rfl Tryz.underlying22 sz24 (by decide) rfl rfl rfl (show _ = some (encS (.mk k1 i1)) from rfl) ⟨rfl, rfl⟩) (.nil))) ?_
  refine dO rfl rfl rfl (op_load_sptr rfl rfl ta24 rfl ⟨rfl, rfl⟩) <| dOps_op rfl rfl (.cons (op_fieldAddr_ref rfl rfl fo30_4 ⟨rfl, rfl⟩) (.cons (op_fieldAddr_ref rfl rfl fo30_4 ⟨rfl, rfl⟩) (.nil))) <| dOps_op rfl rfl (.cons (op_load_ref rfl rfl ((own_get (hT_ _)).trans rfl) ta28 rfl ⟨rfl, rfl⟩) (.cons (op_load_ref rfl rfl ((own_get (hT_ _)).trans rfl) ta28 rfl ⟨rfl, rfl⟩) (.nil))) <| dOps_op rfl rfl (.cons (op_load_ref rfl rfl ((own_get (hT_ _)).trans rfl) ta3 rfl ⟨rfl, rfl⟩) (.cons (op_load_ref rfl rfl ((own_get (hT_ _)).trans rfl) ta3 rfl ⟨rfl, rfl⟩) (.nil))) <| dOps_op rfl rfl (.cons (op_indexAddr rfl Tryz.underlying28 sz30 (by decide) rfl rfl rfl (encVs_get hwx) ⟨rfl, rfl⟩) (.cons (op_indexAddr rfl Tryz.underlying28 sz30 (by decide) rfl rfl rfl (encVs_get hwx) ⟨rfl, rfl⟩) (.nil))) ?_
  refine dO rfl rfl rfl (op_load_sptr rfl rfl ta30 rfl ⟨rfl, rfl⟩) <| dO rfl rfl rfl (op_move rfl rfl ⟨rfl, rfl⟩) <| dO rfl rfl rfl (op_move rfl rfl ⟨rfl, rfl⟩) <| dOps_eff rfl rfl rfl rfl (op_call rfl rfl rfl co48 (hcall)) <| dO rfl rfl rfl (op_assign rfl rfl ⟨rfl, rfl⟩) <| dOps_nil <| mwp_ret ?_
  rw [List.length_map]
  exact ret_tmpS (S' := T (if ys.length ≤ m then ys.length else m + 1)) (.inr rfl) Tryz.results50 rfl (.refl _) (.bool _) (Nat.le_of_eq (hT_ _).symm) (hok _).2 ⟨congrArg MV.bool (decide_eq_decide.2 ⟨fun h => by omega, fun h => by omega⟩), congrArg T (by split <;> split <;> omega)⟩
end Go.Proofs.YtnfcnpdpfgcchaaGreat
end
section
set_option linter.unusedVariables false
set_option linter.unusedSimpArgs false
set_option maxRecDepth 20000
set_option maxHeartbeats 400000
namespace Go.Proofs.YtnfcnpdpfgcchaaGreat
open Go Go.MV
def OwnI (i : Nat) : MS := (List.range (i + 1)).map fun q : Nat => .cells [.int .i64 (q : Int)]
theorem own_succ (i : Nat) : OwnI (i + 1) = OwnI i ++ [.cells [.int .i64 ((i + 1 : Nat) : Int)]] := by unfold OwnI; rw [List.range_succ, List.map_append]; rfl
theorem own_len (i : Nat) : (OwnI i).length = i + 1 := by simp [OwnI]
theorem own_cl_ (i n : Nat) : ∀ o ∈ OwnI i, o.cl n := fun o ho => by
 obtain ⟨q, _, rfl⟩ := List.mem_map.1 ho
 exact cl_int1 _ _ _
theorem getI {A A' : MS} {i : Nat} (hl : A'.length = A.length) : (A' ++ OwnI i)[A.length + i]? = some (.cells [.int .i64 (i : Int)]) := by
 rw [own_get hl]
 simp [OwnI]
theorem getX {A A' : MS} {i : Nat} {c : MObj} (hl : A'.length = A.length) : (A' ++ (OwnI i ++ [c]))[A.length + (i + 1)]? = some c := by
 rw [own_get hl, List.getElem?_append_right (by rw [own_len]; exact Nat.le_refl _), own_len, Nat.sub_self]
 rfl
theorem setX {A A' : MS} {i : Nat} {c d : MObj} (hl : A'.length = A.length) : (A' ++ (OwnI i ++ [c])).set (A.length + (i + 1)) d = A' ++ (OwnI i ++ [d]) := by
 rw [own_set hl, List.set_append_right _ _ (by rw [own_len]; exact Nat.le_refl _), own_len, Nat.sub_self]
 rfl
def tE (off : Nat → Nat) (m i : Nat) : Nat := if off i ≤ m then off i else m + 1
theorem lenX {A A' : MS} {i : Nat} (hl : A'.length = A.length) : (A' ++ OwnI i).length = A.length + (i + 1) := by rw [List.length_append, own_len, hl]
def offG (G : Nat → List Val) (i : Nat) : Nat := ((List.range i).flatMap G).length
theorem off_succ (G : Nat → List Val) (i : Nat) : offG G (i + 1) = offG G i + (G i).length := fm_len G i
theorem off_le (G : Nat → List Val) {i : Nat} : ∀ {n : Nat}, i ≤ n → offG G i ≤ offG G n
 | 0, h => by
  have : i = 0 := by omega
  subst this
  exact Nat.le_refl _
 | n + 1, h => by
  rcases Nat.lt_or_ge i (n + 1) with h1 | h1
  ·have := off_le G (i := i) (n := n) (by omega)
   rw [off_succ]
   omega
  ·have : i = n + 1 := by omega
   subst this
   exact Nat.le_refl _
theorem give_round {f : FuncId} {args : Nat → List MV} {T : Nat → MS} {id m l0 l1 i n : Nat} {G : Nat → List Val} {ys : List (List MV)} {F F' : List (Nat × MObj)} (H : GiveOk Tryz.prog f args .bool ys (okP l1 F')) (hys : ys = (G i).map fun p => [encV p]) (hok : ∀ j, okP l0 F (T j)) (hl1 : l1 = l0 + (i + 1)) (hF' : ∀ j, Sees F' (T j ++ OwnI i)) (hi : i < n)
  (hyt : ∀ j y, j < m → (((List.range n).flatMap G).map fun p => [encV p])[j]? = some y → YStep Tryz.prog id y (T j) true (T (j + 1))) (hyf : ∀ j y, j = m → (((List.range n).flatMap G).map fun p => [encV p])[j]? = some y → YStep Tryz.prog id y (T j) false (T (j + 1))) (ha : offG G i ≤ m) :
  MCalls Tryz.prog f (args id) (T (offG G i) ++ OwnI i) fun v σ' => v = .bool (decide (offG G (i + 1) ≤ m)) ∧ σ' = T (tE (offG G) m (i + 1)) ++ OwnI i := by
 subst hl1 hys
 have := H.use (id := id) (a := offG G i) (M := m) (T := T) (J := OwnI i) (fun j => okP_app (hok j) (own_len i) (hF' j) (own_cl_ i _)) (fun j y h => ?_) hyt hyf ha
 ·rw [List.length_map, ← off_succ] at this
  exact this
 ·rw [List.getElem?_map] at h ⊢
  obtain ⟨p, hp, rfl⟩ := Option.map_eq_some_iff.1 h
  unfold offG
  rw [fm_get G hi hp]
  rfl
theorem each_none (k : Int) (ins : List Sch) (hs : isF 16 (.mk k ins) = true) (n0 m0 : Int) (s0 : List Bs) (c0 : List (List Tk)) (w0 : List Val) (hb : bottomF (.mk k ins) = .mk n0 m0 s0 c0 w0) : EachOk (.mk k ins) (.mk n0 m0 s0 c0 w0) [] := by
 intro i1 i2 l0
 refine GiveOk.iter (k := 45) (first := []) ?_
 intro id T m hok hm hyt hyf
 have hT : ∀ j, (T j).length = l0 := fun j => (hok j).1.1
 have hT_ : ∀ j, (T j).length = (T 0).length := fun j => (hT j).trans (hT 0).symm
 have hsB : ∀ j, (T j)[i1]? = some (.cells (encS (.mk k ins)).cells) := fun j => (hok j).1.2.hd
 have hvB : ∀ j, (T j)[i2]? = some (.cells (encV (.mk n0 m0 s0 c0 w0)).cells) := fun j => (hok j).1.2.tl.hd
 have hm0 : m = 0 := by simpa using hm
 refine mcalls_body Tryz.func45 rfl Tryz.ntmps45 (Nat.le_of_ble_eq_true rfl) ?_
 refine mwp_seq <| mwp_seq <| qR rfl <| qO rfl <| op_load_ref rfl rfl (by first | exact get_app (hsB _) | exact get_nil_app (get_app (hsB _))) ta24 rfl ?_
 refine qO rfl <| op_load_ref rfl rfl (by first | exact get_app (hvB _) | exact get_nil_app (get_app (hvB _))) ta30 rfl ?_
 refine wOps_op rfl (op_call rfl rfl rfl co46 ((None_spec (.mk k ins) (.mk n0 m0 s0 c0 w0) _).mono ?_))
 rintro _ _ ⟨rfl, rfl⟩
 have hno : noneF (.mk k ins) (.mk n0 m0 s0 c0 w0) = true := by unfold noneF; rw [bot_eq hs (Nat.le_refl _)]; exact decide_eq_true hb
 rw [hno]
 refine qN <| mwp_cond_t rfl (rfl) <| mwp_ret ?_
 exact ret_noneS (S' := T 0) (.inr rfl) Tryz.results45 (Nat.le_of_eq (hT_ _).symm) (hok _).2 ⟨rfl, by subst hm0; rfl⟩
theorem each_leaf3 (k : Int) (ins : List Sch) (hs : isF 16 (.mk 3 ins) = true) (n0 m0 : Int) (s0 : List Bs) (c0 : List (List Tk)) (hb : ¬ bottomF (.mk 3 ins) = .mk n0 m0 s0 c0 []) : EachOk (.mk 3 ins) (.mk n0 m0 s0 c0 []) (leavesF 3 (.mk n0 m0 s0 c0 [])) := by
 intro i1 i2 l0
 refine GiveOk.iter (k := 45) (first := []) ?_
 intro id T m hok hm hyt hyf
 have hT : ∀ j, (T j).length = l0 := fun j => (hok j).1.1
 have hT_ : ∀ j, (T j).length = (T 0).length := fun j => (hT j).trans (hT 0).symm
 have hsB : ∀ j, (T j)[i1]? = some (.cells (encS (.mk 3 ins)).cells) := fun j => (hok j).1.2.hd
 have hvB : ∀ j, (T j)[i2]? = some (.cells (encV (.mk n0 m0 s0 c0 [])).cells) := fun j => (hok j).1.2.tl.hd
 have hcall := (leaves3_give ins (.mk n0 m0 s0 c0 []) [] (l0 + 1)).use (id := id) (zs := (leavesF 3 (.mk n0 m0 s0 c0 [])).map fun p => [encV p]) (a := 0) (M := m) (T := T) (J := [.cells [.int .i64 0]]) (fun j => okP_app (hok j) rfl .nil (fun o ho => by simp at ho; subst ho; exact cl_int1 _ _ _)) (fun j y h => by rw [Nat.zero_add]; exact h) hyt hyf (Nat.zero_le _)
 rw [Nat.zero_add] at hcall
 refine mcalls_body Tryz.func45 rfl Tryz.ntmps45 (Nat.le_of_ble_eq_true rfl) ?_
 refine mwp_seq <| mwp_seq <| qR rfl <| qO rfl <| op_load_ref rfl rfl (by first | exact get_app (hsB _) | exact get_nil_app (get_app (hsB _))) ta24 rfl ?_
 refine qO rfl <| op_load_ref rfl rfl (by first | exact get_app (hvB _) | exact get_nil_app (get_app (hvB _))) ta30 rfl ?_
 refine wOps_op rfl (op_call rfl rfl rfl co46 ((None_spec (.mk 3 ins) (.mk n0 m0 s0 c0 []) _).mono ?_))
 rintro _ _ ⟨rfl, rfl⟩
 have hno : noneF (.mk 3 ins) (.mk n0 m0 s0 c0 []) = false := by unfold noneF; rw [bot_eq hs (Nat.le_refl _)]; exact decide_eq_false hb
 rw [hno]
 refine qN <| mwp_cond_f rfl (rfl) <| mwp_skip <| mwp_seq <| qR rfl <| qA rfl rfl rfl <| qN <| mwp_seq <| mwp_seq <| qR rfl <| qO rfl <| op_alloc' rfl zm3 rfl rfl <| qO rfl <| op_store' rfl rfl rfl rfl sz3 rfl rfl (Nat.le_of_ble_eq_true rfl) rfl <| qN <| mwp_block ?_
 show mwp _ _ _ _ _ _ _ (([] : MS) ++ (T 0 ++ [.cells [.int .i64 0]]))
 refine mwp_loopK (α := Nat) [(0, _), (1, _), (2, _)] (fun i => [(5, .ref ((T 0).length + 0) 0), (4, .bool true)]) (fun i => T 0 ++ [.cells [.int .i64 0]]) (fun i => True) (fun i => 0) (0) (.keep rfl (.keep rfl (.keep rfl (.nil)))) (.keep rfl (.keep rfl (.nil))) (trivial) (rfl) ?_
 rintro i _
 refine mwp_seq <| mwp_seq <| qR rfl <| qO rfl <| op_load_ref rfl rfl (get_nil_app ((own_get (hT_ _)).trans rfl)) ta3 rfl <| qF rfl rfl rfl fo30_4 <| qO rfl <| op_load_ref rfl rfl (by first | exact get_app (hvB _) | exact get_nil_app (get_app (hvB _))) ta28 rfl ?_
 refine qE rfl rfl Tryz.underlying28 rfl <| qC rfl rfl rfl rfl rfl <| qM rfl rfl rfl <| qS rfl <| qP rfl rfl rfl rfl <| qN <| mwp_cond_f rfl (rfl) <| mwp_exit <| mwp_seq <| qR rfl <| qF rfl rfl rfl fo30_4 <| qO rfl <| op_load_ref rfl rfl (by first | exact get_app (hvB _) | exact get_nil_app (get_app (hvB _))) ta28 rfl ?_
 refine qE rfl rfl Tryz.underlying28 rfl <| qC rfl rfl rfl rfl rfl <| qN <| mwp_cond_t rfl (rfl) <| qR rfl <| qO rfl <| op_load_ref rfl rfl (by first | exact get_app (hsB _) | exact get_nil_app (get_app (hsB _))) ta24 rfl ?_
 refine qO rfl <| op_load_ref rfl rfl (by first | exact get_app (hvB _) | exact get_nil_app (get_app (hvB _))) ta30 rfl ?_
 refine qM rfl rfl rfl ?_
 refine wOps_op rfl (op_call rfl rfl rfl co51 ((hcall).mono ?_))
 rintro _ _ ⟨rfl, rfl⟩
 refine qN ?_
 exact ret_noneS (S' := T (if ((leavesF 3 (.mk n0 m0 s0 c0 [])).map fun p => [encV p]).length ≤ m then ((leavesF 3 (.mk n0 m0 s0 c0 [])).map fun p => [encV p]).length else m + 1)) (.inl rfl) Tryz.results45 (Nat.le_of_eq (hT_ _).symm) (hok _).2 ⟨rfl, congrArg T (by split <;> split <;> omega)⟩
theorem each_leaf1 (k : Int) (hk3 : k ≠ 3) (hk7 : k ≠ 7) (ins : List Sch) (hs : isF 16 (.mk k ins) = true) (n0 m0 : Int) (s0 : List Bs) (c0 : List (List Tk)) (hb : ¬ bottomF (.mk k ins) = .mk n0 m0 s0 c0 []) : EachOk (.mk k ins) (.mk n0 m0 s0 c0 []) (leavesF k (.mk n0 m0 s0 c0 [])) := by
 intro i1 i2 l0
 refine GiveOk.iter (k := 45) (first := []) ?_
 intro id T m hok hm hyt hyf
 have hT : ∀ j, (T j).length = l0 := fun j => (hok j).1.1
 have hT_ : ∀ j, (T j).length = (T 0).length := fun j => (hT j).trans (hT 0).symm
 have hsB : ∀ j, (T j)[i1]? = some (.cells (encS (.mk k ins)).cells) := fun j => (hok j).1.2.hd
 have hvB : ∀ j, (T j)[i2]? = some (.cells (encV (.mk n0 m0 s0 c0 [])).cells) := fun j => (hok j).1.2.tl.hd
 have hcall := (leaves1_give k hk3 hk7 ins (.mk n0 m0 s0 c0 []) [] (l0 + 1)).use (id := id) (zs := (leavesF k (.mk n0 m0 s0 c0 [])).map fun p => [encV p]) (a := 0) (M := m) (T := T) (J := [.cells [.int .i64 0]]) (fun j => okP_app (hok j) rfl .nil (fun o ho => by simp at ho; subst ho; exact cl_int1 _ _ _)) (fun j y h => by rw [Nat.zero_add]; exact h) hyt hyf (Nat.zero_le _)
 rw [Nat.zero_add] at hcall
 refine mcalls_body Tryz.func45 rfl Tryz.ntmps45 (Nat.le_of_ble_eq_true rfl) ?_
 refine mwp_seq <| mwp_seq <| qR rfl <| qO rfl <| op_load_ref rfl rfl (by first | exact get_app (hsB _) | exact get_nil_app (get_app (hsB _))) ta24 rfl ?_
 refine qO rfl <| op_load_ref rfl rfl (by first | exact get_app (hvB _) | exact get_nil_app (get_app (hvB _))) ta30 rfl ?_
 refine wOps_op rfl (op_call rfl rfl rfl co46 ((None_spec (.mk k ins) (.mk n0 m0 s0 c0 []) _).mono ?_))
 rintro _ _ ⟨rfl, rfl⟩
 have hno : noneF (.mk k ins) (.mk n0 m0 s0 c0 []) = false := by unfold noneF; rw [bot_eq hs (Nat.le_refl _)]; exact decide_eq_false hb
 rw [hno]
 refine qN <| mwp_cond_f rfl (rfl) <| mwp_skip <| mwp_seq <| qR rfl <| qA rfl rfl rfl <| qN <| mwp_seq <| mwp_seq <| qR rfl <| qO rfl <| op_alloc' rfl zm3 rfl rfl <| qO rfl <| op_store' rfl rfl rfl rfl sz3 rfl rfl (Nat.le_of_ble_eq_true rfl) rfl <| qN <| mwp_block ?_
 show mwp _ _ _ _ _ _ _ (([] : MS) ++ (T 0 ++ [.cells [.int .i64 0]]))
 refine mwp_loopK (α := Nat) [(0, _), (1, _), (2, _)] (fun i => [(5, .ref ((T 0).length + 0) 0), (4, .bool true)]) (fun i => T 0 ++ [.cells [.int .i64 0]]) (fun i => True) (fun i => 0) (0) (.keep rfl (.keep rfl (.keep rfl (.nil)))) (.keep rfl (.keep rfl (.nil))) (trivial) (rfl) ?_
 rintro i _
 refine mwp_seq <| mwp_seq <| qR rfl <| qO rfl <| op_load_ref rfl rfl (get_nil_app ((own_get (hT_ _)).trans rfl)) ta3 rfl <| qF rfl rfl rfl fo30_4 <| qO rfl <| op_load_ref rfl rfl (by first | exact get_app (hvB _) | exact get_nil_app (get_app (hvB _))) ta28 rfl ?_
 refine qE rfl rfl Tryz.underlying28 rfl <| qC rfl rfl rfl rfl rfl <| qM rfl rfl rfl <| qS rfl <| qP rfl rfl rfl rfl <| qN <| mwp_cond_f rfl (rfl) <| mwp_exit <| mwp_seq <| qR rfl <| qF rfl rfl rfl fo30_4 <| qO rfl <| op_load_ref rfl rfl (by first | exact get_app (hvB _) | exact get_nil_app (get_app (hvB _))) ta28 rfl ?_
 refine qE rfl rfl Tryz.underlying28 rfl <| qC rfl rfl rfl rfl rfl <| qN <| mwp_cond_t rfl (rfl) <| qR rfl <| qO rfl <| op_load_ref rfl rfl (by first | exact get_app (hsB _) | exact get_nil_app (get_app (hsB _))) ta24 rfl ?_
 refine qO rfl <| op_load_ref rfl rfl (by first | exact get_app (hvB _) | exact get_nil_app (get_app (hvB _))) ta30 rfl ?_
 refine qM rfl rfl rfl ?_
 refine wOps_op rfl (op_call rfl rfl rfl co51 ((hcall).mono ?_))
 rintro _ _ ⟨rfl, rfl⟩
 refine qN ?_
 exact ret_noneS (S' := T (if ((leavesF k (.mk n0 m0 s0 c0 [])).map fun p => [encV p]).length ≤ m then ((leavesF k (.mk n0 m0 s0 c0 [])).map fun p => [encV p]).length else m + 1)) (.inl rfl) Tryz.results45 (Nat.le_of_eq (hT_ _).symm) (hok _).2 ⟨rfl, congrArg T (by split <;> split <;> omega)⟩
theorem each_map (t1 : Sch) (hs : isF 16 (.mk 4 [t1]) = true) (n0 m0 : Int) (s0 : List Bs) (c0 : List (List Tk)) (w0 : List Val) (hw0 : 0 < w0.length) (hw : w0.length ≤ 1000) (hsl : s0.length = w0.length) (hb : ¬ bottomF (.mk 4 [t1]) = .mk n0 m0 s0 c0 w0) (Y : Nat → List Val) (hit : ∀ i x, w0[i]? = some x → EachOk t1 x (Y i)) : EachOk (.mk 4 [t1]) (.mk n0 m0 s0 c0 w0) ((List.range w0.length).flatMap (fun i => (Y i).map fun p => Val.mk 0 0 [s0.getD i []] [] [p])) := by
 obtain ⟨k1, i1_⟩ := t1
 generalize hG : (fun i => (Y i).map fun p => Val.mk 0 0 [s0.getD i []] [] [p]) = G
 intro i1 i2 l0
 refine GiveOk.iter (k := 45) (first := []) ?_
 intro id T m hok hm hyt hyf
 have hT : ∀ j, (T j).length = l0 := fun j => (hok j).1.1
 have hT_ : ∀ j, (T j).length = (T 0).length := fun j => (hT j).trans (hT 0).symm
 have hsB : ∀ j, (T j)[i1]? = some (.cells (encS (.mk 4 [.mk k1 i1_])).cells) := fun j => (hok j).1.2.hd
 have hvB : ∀ j, (T j)[i2]? = some (.cells (encV (.mk n0 m0 s0 c0 w0)).cells) := fun j => (hok j).1.2.tl.hd
 have htot : (((List.range w0.length).flatMap G).map fun p => [encV p]).length = offG G w0.length := by rw [List.length_map]; rfl
 rw [htot] at hm ⊢
 have hcall : ∀ i, i < w0.length → offG G i ≤ m → MCalls Tryz.prog 48 [encS (.mk k1 i1_), encV (w0.getD i noV), .fn (.func 47) [] [.ref i2 0, .ref ((T 0).length + i) 0], .yld id] (T (offG G i) ++ OwnI i) fun v σ' => v = .bool (decide (offG G (i + 1) ≤ m)) ∧ σ' = T (tE (offG G) m (i + 1)) ++ OwnI i := by
  intro i hi ha
  obtain ⟨x, hx⟩ : ∃ x, w0[i]? = some x := ⟨_, List.getElem?_eq_getElem hi⟩
  obtain ⟨sx, hsx⟩ : ∃ x, s0[i]? = some x := ⟨_, List.getElem?_eq_getElem (by omega)⟩
  rw [show w0.getD i noV = x by simp [hx]]
  have hW := within_give (.mk k1 i1_) x (Y i) (fun p => .mk 0 0 [sx] [] [p]) 47 [.ref i2 0, .ref ((T 0).length + i) 0] [(i2, .cells (encV (.mk n0 m0 s0 c0 w0)).cells), ((T 0).length + i, .cells [.int .i64 (i : Int)])] co47 (hit i x hx) (fun p S' hS => mapAlone_spec n0 m0 s0 c0 w0 i sx hsx (by omega) p _ _ S' hS.hd hS.tl.hd) (l0 + (i + 1))
  exact give_round (i := i) (args := fun id => [encS (.mk k1 i1_), encV x, .fn (.func 47) [] [.ref i2 0, .ref ((T 0).length + i) 0], .yld id]) hW (by rw [← hG, List.map_map]; simp [Function.comp_def, hsx]) hok rfl (fun j => .cons (get_app (hvB j)) (.cons (getI (hT_ j)) .nil)) hi hyt hyf ha
 refine mcalls_body Tryz.func45 rfl Tryz.ntmps45 (Nat.le_of_ble_eq_true rfl) ?_
 refine mwp_seq <| mwp_seq <| qR rfl <| qO rfl <| op_load_ref rfl rfl (by first | exact get_app (hsB _) | exact get_nil_app (get_app (hsB _))) ta24 rfl ?_
 refine qO rfl <| op_load_ref rfl rfl (by first | exact get_app (hvB _) | exact get_nil_app (get_app (hvB _))) ta30 rfl ?_
 refine wOps_op rfl (op_call rfl rfl rfl co46 ((None_spec (.mk 4 [.mk k1 i1_]) (.mk n0 m0 s0 c0 w0) _).mono ?_))
 rintro _ _ ⟨rfl, rfl⟩
 have hno : noneF (.mk 4 [.mk k1 i1_]) (.mk n0 m0 s0 c0 w0) = false := by unfold noneF; rw [bot_eq hs (Nat.le_refl _)]; exact decide_eq_false hb
 rw [hno]
 refine qN <| mwp_cond_f rfl (rfl) <| mwp_skip <| mwp_seq <| qR rfl <| qA rfl rfl rfl <| qN <| mwp_seq <| mwp_seq <| qR rfl <| qO rfl <| op_alloc' rfl zm3 rfl rfl <| qO rfl <| op_store' rfl rfl rfl rfl sz3 rfl rfl (Nat.le_of_ble_eq_true rfl) rfl <| qN <| mwp_block ?_
 have ht0 : tE (offG G) m 0 = 0 := if_pos (Nat.zero_le _)
 show mwp _ _ _ _ _ _ _ (([] : MS) ++ (T 0 ++ OwnI 0))
 refine mwp_loopK (α := Nat) [(0, _), (1, _), (2, _)] (fun i => [(5, .ref ((T 0).length + i) 0), (4, .bool (decide (offG G i ≤ m)))]) (fun i => T (tE (offG G) m i) ++ OwnI i) (fun i => i ≤ w0.length) (fun i => w0.length - i) (0) (.keep rfl (.keep rfl (.keep rfl (.nil)))) (.keep rfl (.eq rfl ((congrArg MV.bool (decide_eq_true (Nat.zero_le _)).symm)) (.nil))) (Nat.zero_le _) (by show _ = T (tE (offG G) m 0) ++ OwnI 0; rw [ht0]) ?_
 rintro i hi
 refine mwp_seq <| mwp_seq <| qR rfl <| qO rfl <| op_load_ref rfl rfl (by first | exact getI (hT_ _) | exact get_nil_app (getI (hT_ _))) ta3 rfl ?_
 refine qF rfl rfl rfl fo30_4 <| qO rfl <| op_load_ref rfl rfl (by first | exact get_app (hvB _) | exact get_nil_app (get_app (hvB _))) ta28 rfl ?_
 refine qE rfl rfl Tryz.underlying28 rfl <| qC rfl rfl rfl rfl rfl <| qM rfl rfl rfl ?_
 refine wOps_case (fun h15 => ?_) (fun h15 => ?_)
 ·
  have hlt : i < w0.length := by have := of_decide_eq_true h15; rw [encVs_length] at this; omega
  obtain ⟨⟨n1, m1, s1, c1, w1⟩, hwx⟩ : ∃ x, w0[i]? = some x := ⟨_, List.getElem?_eq_getElem hlt⟩
  have hgd : w0.getD i noV = (.mk n1 m1 s1 c1 w1) := by simp [hwx]
  refine qM rfl rfl rfl <| qP rfl rfl rfl rfl <| qN ?_
  refine mwp_cond_split rfl (fun h17 => ?_) (fun h17 => ?_)
  ·
   have hgo : offG G i ≤ m := of_decide_eq_true h17
   have hcl_ := hcall i hlt hgo
   have hte : tE (offG G) m i = offG G i := if_pos hgo
   rw [hte]
   refine mwp_skip <| mwp_seq <| mwp_block <| mwp_seq <| qR rfl <| qF rfl rfl rfl fo24_0 <| qO rfl <| op_load_ref rfl rfl (by first | exact get_app (hsB _) | exact get_nil_app (get_app (hsB _))) ta3 rfl ?_
   refine qN <| mwp_block <| mwp_seq <| qR rfl <| qC rfl rfl rfl rfl (eqlQ rfl) <| qA rfl rfl rfl <| qN <| mwp_cond_t rfl (rfl) <| mwp_seq <| qR rfl <| qO rfl <| op_makeFunc rfl rfl rfl <| qA rfl rfl rfl <| qN ?_
   rw [hgd] at hcl_
   refine mwp_draw [11] [_, T (tE (offG G) m (i + 1)) ++ OwnI i] mo (by decide) rfl rfl rfl rfl ?_
   refine dOps_op rfl rfl (.cons (op_fieldAddr_ref rfl rfl fo24_1 ⟨rfl, rfl⟩) (.cons (op_fieldAddr_ref rfl rfl fo24_1 ⟨rfl, rfl⟩) (.nil))) <| dOps_op rfl rfl (.cons (op_load_ref rfl rfl (by first | exact get_app (hsB _) | exact get_nil_app (get_app (hsB _))) ta22 rfl ⟨rfl, rfl⟩) (.cons (op_load_ref rfl rfl (by first | exact get_app (hsB _) | exact get_nil_app (get_app (hsB _))) ta22 rfl ⟨rfl, rfl⟩) (.nil))) ?_
   refine dOps_op rfl rfl (.cons (op_indexAddr rfl Tryz.underlying22 sz24 (by decide) rfl rfl rfl (show _ = some (encS (.mk k1 i1_)) from rfl) ⟨rfl, rfl⟩) (.cons (op_indexAddr rfl Tryz.underlying22 sz24 (by decide) rfl rfl rfl (show _ = some (encS (.mk k1 i1_)) from rfl) ⟨rfl, rfl⟩) (.nil))) ?_
   refine dO rfl rfl rfl (op_load_sptr rfl rfl ta24 rfl ⟨rfl, rfl⟩) <| dOps_op rfl rfl (.cons (op_fieldAddr_ref rfl rfl fo30_4 ⟨rfl, rfl⟩) (.cons (op_fieldAddr_ref rfl rfl fo30_4 ⟨rfl, rfl⟩) (.nil))) <| dOps_op rfl rfl (.cons (op_load_ref rfl rfl (by first | exact get_app (hvB _) | exact get_nil_app (get_app (hvB _))) ta28 rfl ⟨rfl, rfl⟩) (.cons (op_load_ref rfl rfl (by first | exact get_app (hvB _) | exact get_nil_app (get_app (hvB _))) ta28 rfl ⟨rfl, rfl⟩) (.nil))) ?_
   refine dOps_op rfl rfl (.cons (op_load_ref rfl rfl (by first | exact getI (hT_ _) | exact get_nil_app (getI (hT_ _))) ta3 rfl ⟨rfl, rfl⟩) (.cons (op_load_ref rfl rfl (by first | exact getI (hT_ _) | exact get_nil_app (getI (hT_ _))) ta3 rfl ⟨rfl, rfl⟩) (.nil))) ?_
   refine dOps_op rfl rfl (.cons (op_indexAddr rfl Tryz.underlying28 sz30 (by decide) rfl rfl rfl (encVs_get hwx) ⟨rfl, rfl⟩) (.cons (op_indexAddr rfl Tryz.underlying28 sz30 (by decide) rfl rfl rfl (encVs_get hwx) ⟨rfl, rfl⟩) (.nil))) ?_
   refine dO rfl rfl rfl (op_load_sptr rfl rfl ta30 rfl ⟨rfl, rfl⟩) <| dO rfl rfl rfl (op_move rfl rfl ⟨rfl, rfl⟩) <| dO rfl rfl rfl (op_move rfl rfl ⟨rfl, rfl⟩) <| dOps_eff rfl rfl rfl rfl (op_call rfl rfl rfl co48 (hcl_)) <| dO rfl rfl rfl (op_assign rfl rfl ⟨rfl, rfl⟩) <| dOps_nil <| mwp_seq <| mwp_seq <| qR rfl <| qO rfl <| op_load_ref rfl rfl (by first | exact getI (hT_ _) | exact get_nil_app (getI (hT_ _))) ta3 rfl ?_
   refine qN <| qR rfl <| qO rfl <| op_alloc rfl zm3 ?_
   show wOps _ _ _ _ _ _ (T (tE (offG G) m (i + 1)) ++ OwnI i ++ [.cells [.int .i64 0]])
   rw [List.append_assoc, show (T (tE (offG G) m (i + 1)) ++ OwnI i).length = (T 0).length + (i + 1) from lenX (hT_ _)]
   refine qO rfl <| op_store (id := (T 0).length + (i + 1)) rfl rfl rfl (by exact getX (hT_ _)) sz3 rfl rfl (Nat.le_of_ble_eq_true rfl) ?_
   rw [setX (hT_ _)]
   refine qN <| qR rfl <| qO rfl <| op_load_ref rfl rfl (by exact getX (hT_ _)) ta3 rfl ?_
   refine qO rfl <| op_arith rfl rfl rfl (wadd (a := i) (b := 1) rfl (by omega)) ?_
   refine qO rfl <| op_store (id := (T 0).length + (i + 1)) rfl rfl rfl (by exact getX (hT_ _)) sz3 rfl rfl (Nat.le_of_ble_eq_true rfl) ?_
   rw [setX (hT_ _)]
   refine qN ?_
   refine ⟨i + 1, by omega, by omega, by rw [own_succ]; rfl, (.keep rfl (.keep rfl (.keep rfl (.nil)))), (.eq rfl (rfl) (.eq rfl (rfl) (.nil)))⟩
  ·
   have hno2 : ¬ offG G i ≤ m := of_decide_eq_false h17
   have hofl := off_le G hi
   refine mwp_exit <| mwp_seq <| qR rfl <| qF rfl rfl rfl fo30_4 <| qO rfl <| op_load_ref rfl rfl (by first | exact get_app (hvB _) | exact get_nil_app (get_app (hvB _))) ta28 rfl ?_
   refine qE rfl rfl Tryz.underlying28 rfl <| qC rfl rfl rfl rfl (eqlN (by rw [encVs_length]; omega)) ?_
   refine qN <| mwp_cond_f rfl (rfl) <| mwp_skip ?_
   exact ret_noneS (S' := T (tE (offG G) m i)) (.inl rfl) Tryz.results45 (Nat.le_of_eq (hT_ _).symm) (hok _).2 ⟨rfl, congrArg T (by unfold tE; split <;> split <;> omega)⟩
 ·
  have hge : i = w0.length := by have := of_decide_eq_false h15; rw [encVs_length] at this; omega
  have hot : offG G i = offG G w0.length := by rw [hge]
  refine qS rfl <| qP rfl rfl rfl rfl <| qN <| mwp_cond_f rfl (rfl) <| mwp_exit <| mwp_seq <| qR rfl <| qF rfl rfl rfl fo30_4 <| qO rfl <| op_load_ref rfl rfl (by first | exact get_app (hvB _) | exact get_nil_app (get_app (hvB _))) ta28 rfl ?_
  refine qE rfl rfl Tryz.underlying28 rfl <| qC rfl rfl rfl rfl (eqlN (by rw [encVs_length]; omega)) ?_
  refine qN <| mwp_cond_f rfl (rfl) <| mwp_skip ?_
  exact ret_noneS (S' := T (tE (offG G) m i)) (.inl rfl) Tryz.results45 (Nat.le_of_eq (hT_ _).symm) (hok _).2 ⟨rfl, congrArg T (by unfold tE; split <;> split <;> omega)⟩
theorem each_pair (t1 t2 : Sch) (hs : isF 16 (.mk 5 [t1, t2]) = true) (h1 : isF 16 t1 = true) (h2 : isF 16 t2 = true) (n0 m0 : Int) (s0 : List Bs) (c0 : List (List Tk)) (x0 x1 : Val) (w0 : List Val) (hw0 : w0 = [x0, x1]) (hb : ¬ bottomF (.mk 5 [t1, t2]) = .mk n0 m0 s0 c0 w0) (Y : Nat → List Val) (hit0 : EachOk t1 x0 (Y 0)) (hit1 : EachOk t2 x1 (Y 1)) : EachOk (.mk 5 [t1, t2]) (.mk n0 m0 s0 c0 w0) ((List.range w0.length).flatMap (fun i => (Y i).map fun p => Val.mk 0 0 [] [] ((bottomL [t1, t2]).set i p))) := by
 obtain ⟨k1, i1_⟩ := t1
 obtain ⟨k2, i2_⟩ := t2
 obtain ⟨na, ma, sa, ca, wa⟩ := x0
 obtain ⟨nb, mb, sb, cb, wb⟩ := x1
 generalize hG : (fun i => (Y i).map fun p => Val.mk 0 0 [] [] ((bottomL [(.mk k1 i1_), (.mk k2 i2_)]).set i p)) = G
 intro i1 i2 l0
 refine GiveOk.iter (k := 45) (first := []) ?_
 intro id T m hok hm hyt hyf
 have hT : ∀ j, (T j).length = l0 := fun j => (hok j).1.1
 have hT_ : ∀ j, (T j).length = (T 0).length := fun j => (hT j).trans (hT 0).symm
 have hsB : ∀ j, (T j)[i1]? = some (.cells (encS (.mk 5 [.mk k1 i1_, .mk k2 i2_])).cells) := fun j => (hok j).1.2.hd
 have hvB : ∀ j, (T j)[i2]? = some (.cells (encV (.mk n0 m0 s0 c0 w0)).cells) := fun j => (hok j).1.2.tl.hd
 have htot : (((List.range w0.length).flatMap G).map fun p => [encV p]).length = offG G w0.length := by rw [List.length_map]; rfl
 rw [htot] at hm ⊢
 have hcall : ∀ i, i < w0.length → offG G i ≤ m → MCalls Tryz.prog 49 [encS (.mk 5 [.mk k1 i1_, .mk k2 i2_]), encV (.mk n0 m0 s0 c0 w0), .int .i64 (i : Int), .yld id] (T (offG G i) ++ OwnI i) fun v σ' => v = .bool (decide (offG G (i + 1) ≤ m)) ∧ σ' = T (tE (offG G) m (i + 1)) ++ OwnI i := by
  intro i hi ha
  have h01 : i = 0 ∨ i = 1 := by rw [hw0] at hi; simp at hi; omega
  have hvv : encV (.mk n0 m0 s0 c0 w0) = encV (.mk n0 m0 s0 c0 [.mk na ma sa ca wa, .mk nb mb sb cb wb]) := by rw [hw0]
  rw [hvv]
  rcases h01 with rfl | rfl
  ·exact give_round (i := 0) (args := fun id => [encS (.mk 5 [.mk k1 i1_, .mk k2 i2_]), encV (.mk n0 m0 s0 c0 [.mk na ma sa ca wa, .mk nb mb sb cb wb]), .int .i64 0, .yld id]) (paired0_give (.mk k1 i1_) (.mk k2 i2_) hs h1 h2 n0 m0 s0 c0 (.mk na ma sa ca wa) (.mk nb mb sb cb wb) (Y 0) hit0 [] (l0 + 1)) (by rw [← hG, List.map_map]; simp [Function.comp_def, bottomL]) hok rfl (fun j => .nil) hi hyt hyf ha
  ·exact give_round (i := 1) (args := fun id => [encS (.mk 5 [.mk k1 i1_, .mk k2 i2_]), encV (.mk n0 m0 s0 c0 [.mk na ma sa ca wa, .mk nb mb sb cb wb]), .int .i64 1, .yld id]) (paired1_give (.mk k1 i1_) (.mk k2 i2_) hs h1 h2 n0 m0 s0 c0 (.mk na ma sa ca wa) (.mk nb mb sb cb wb) (Y 1) hit1 [] (l0 + 2)) (by rw [← hG, List.map_map]; simp [Function.comp_def, bottomL]) hok rfl (fun j => .nil) hi hyt hyf ha
 have hw : w0.length = 2 := by rw [hw0]; rfl
 refine mcalls_body Tryz.func45 rfl Tryz.ntmps45 (Nat.le_of_ble_eq_true rfl) ?_
 refine mwp_seq <| mwp_seq <| qR rfl <| qO rfl <| op_load_ref rfl rfl (by first | exact get_app (hsB _) | exact get_nil_app (get_app (hsB _))) ta24 rfl ?_
 refine qO rfl <| op_load_ref rfl rfl (by first | exact get_app (hvB _) | exact get_nil_app (get_app (hvB _))) ta30 rfl ?_
 refine wOps_op rfl (op_call rfl rfl rfl co46 ((None_spec (.mk 5 [.mk k1 i1_, .mk k2 i2_]) (.mk n0 m0 s0 c0 w0) _).mono ?_))
 rintro _ _ ⟨rfl, rfl⟩
 have hno : noneF (.mk 5 [.mk k1 i1_, .mk k2 i2_]) (.mk n0 m0 s0 c0 w0) = false := by unfold noneF; rw [bot_eq hs (Nat.le_refl _)]; exact decide_eq_false hb
 rw [hno]
 refine qN <| mwp_cond_f rfl (rfl) <| mwp_skip <| mwp_seq <| qR rfl <| qA rfl rfl rfl <| qN <| mwp_seq <| mwp_seq <| qR rfl <| qO rfl <| op_alloc' rfl zm3 rfl rfl <| qO rfl <| op_store' rfl rfl rfl rfl sz3 rfl rfl (Nat.le_of_ble_eq_true rfl) rfl <| qN <| mwp_block ?_
 have ht0 : tE (offG G) m 0 = 0 := if_pos (Nat.zero_le _)
 show mwp _ _ _ _ _ _ _ (([] : MS) ++ (T 0 ++ OwnI 0))
 refine mwp_loopK (α := Nat) [(0, _), (1, _), (2, _)] (fun i => [(5, .ref ((T 0).length + i) 0), (4, .bool (decide (offG G i ≤ m)))]) (fun i => T (tE (offG G) m i) ++ OwnI i) (fun i => i ≤ w0.length) (fun i => w0.length - i) (0) (.keep rfl (.keep rfl (.keep rfl (.nil)))) (.keep rfl (.eq rfl ((congrArg MV.bool (decide_eq_true (Nat.zero_le _)).symm)) (.nil))) (Nat.zero_le _) (by show _ = T (tE (offG G) m 0) ++ OwnI 0; rw [ht0]) ?_
 rintro i hi
 refine mwp_seq <| mwp_seq <| qR rfl <| qO rfl <| op_load_ref rfl rfl (by first | exact getI (hT_ _) | exact get_nil_app (getI (hT_ _))) ta3 rfl ?_
 refine qF rfl rfl rfl fo30_4 <| qO rfl <| op_load_ref rfl rfl (by first | exact get_app (hvB _) | exact get_nil_app (get_app (hvB _))) ta28 rfl ?_
 refine qE rfl rfl Tryz.underlying28 rfl <| qC rfl rfl rfl rfl rfl <| qM rfl rfl rfl ?_
 refine wOps_case (fun h15 => ?_) (fun h15 => ?_)
 ·
  have hlt : i < w0.length := by have := of_decide_eq_true h15; rw [encVs_length] at this; omega
  refine qM rfl rfl rfl <| qP rfl rfl rfl rfl <| qN ?_
  refine mwp_cond_split rfl (fun h17 => ?_) (fun h17 => ?_)
  ·
   have hgo : offG G i ≤ m := of_decide_eq_true h17
   have hcl_ := hcall i hlt hgo
   have hte : tE (offG G) m i = offG G i := if_pos hgo
   rw [hte]
   refine mwp_skip <| mwp_seq <| mwp_block <| mwp_seq <| qR rfl <| qF rfl rfl rfl fo24_0 <| qO rfl <| op_load_ref rfl rfl (by first | exact get_app (hsB _) | exact get_nil_app (get_app (hsB _))) ta3 rfl ?_
   refine qN <| mwp_block <| mwp_seq <| qR rfl <| qC rfl rfl rfl rfl (eqlN (by decide)) ?_
   refine qA rfl rfl rfl <| qN <| mwp_cond_f rfl (rfl) <| mwp_seq <| qR rfl <| qC rfl rfl rfl rfl (eqlQ rfl) <| qA rfl rfl rfl <| qN <| mwp_cond_t rfl (rfl) <| qR rfl <| qO rfl <| op_load_ref rfl rfl (by first | exact get_app (hsB _) | exact get_nil_app (get_app (hsB _))) ta24 rfl ?_
   refine qO rfl <| op_load_ref rfl rfl (by first | exact get_app (hvB _) | exact get_nil_app (get_app (hvB _))) ta30 rfl ?_
   refine qO rfl <| op_load_ref rfl rfl (by first | exact getI (hT_ _) | exact get_nil_app (getI (hT_ _))) ta3 rfl ?_
   refine qM rfl rfl rfl ?_
   refine wOps_op rfl (op_call rfl rfl rfl co49 ((hcl_).mono ?_))
   rintro _ _ ⟨rfl, rfl⟩
   refine qA rfl rfl rfl <| qN <| mwp_seq <| mwp_seq <| qR rfl <| qO rfl <| op_load_ref rfl rfl (by first | exact getI (hT_ _) | exact get_nil_app (getI (hT_ _))) ta3 rfl ?_
   refine qN <| qR rfl <| qO rfl <| op_alloc rfl zm3 ?_
   show wOps _ _ _ _ _ _ (T (tE (offG G) m (i + 1)) ++ OwnI i ++ [.cells [.int .i64 0]])
   rw [List.append_assoc, show (T (tE (offG G) m (i + 1)) ++ OwnI i).length = (T 0).length + (i + 1) from lenX (hT_ _)]
   refine qO rfl <| op_store (id := (T 0).length + (i + 1)) rfl rfl rfl (by exact getX (hT_ _)) sz3 rfl rfl (Nat.le_of_ble_eq_true rfl) ?_
   rw [setX (hT_ _)]
   refine qN <| qR rfl <| qO rfl <| op_load_ref rfl rfl (by exact getX (hT_ _)) ta3 rfl ?_
   refine qO rfl <| op_arith rfl rfl rfl (wadd (a := i) (b := 1) rfl (by omega)) ?_
   refine qO rfl <| op_store (id := (T 0).length + (i + 1)) rfl rfl rfl (by exact getX (hT_ _)) sz3 rfl rfl (Nat.le_of_ble_eq_true rfl) ?_
   rw [setX (hT_ _)]
   refine qN ?_
   refine ⟨i + 1, by omega, by omega, by rw [own_succ]; rfl, (.keep rfl (.keep rfl (.keep rfl (.nil)))), (.eq rfl (rfl) (.eq rfl (rfl) (.nil)))⟩
  ·
   have hno2 : ¬ offG G i ≤ m := of_decide_eq_false h17
   have hofl := off_le G hi
   refine mwp_exit <| mwp_seq <| qR rfl <| qF rfl rfl rfl fo30_4 <| qO rfl <| op_load_ref rfl rfl (by first | exact get_app (hvB _) | exact get_nil_app (get_app (hvB _))) ta28 rfl ?_
   refine qE rfl rfl Tryz.underlying28 rfl <| qC rfl rfl rfl rfl (eqlN (by rw [encVs_length]; omega)) ?_
   refine qN <| mwp_cond_f rfl (rfl) <| mwp_skip ?_
   exact ret_noneS (S' := T (tE (offG G) m i)) (.inl rfl) Tryz.results45 (Nat.le_of_eq (hT_ _).symm) (hok _).2 ⟨rfl, congrArg T (by unfold tE; split <;> split <;> omega)⟩
 ·
  have hge : i = w0.length := by have := of_decide_eq_false h15; rw [encVs_length] at this; omega
  have hot : offG G i = offG G w0.length := by rw [hge]
  refine qS rfl <| qP rfl rfl rfl rfl <| qN <| mwp_cond_f rfl (rfl) <| mwp_exit <| mwp_seq <| qR rfl <| qF rfl rfl rfl fo30_4 <| qO rfl <| op_load_ref rfl rfl (by first | exact get_app (hvB _) | exact get_nil_app (get_app (hvB _))) ta28 rfl ?_
  refine qE rfl rfl Tryz.underlying28 rfl <| qC rfl rfl rfl rfl (eqlN (by rw [encVs_length]; omega)) ?_
  refine qN <| mwp_cond_f rfl (rfl) <| mwp_skip ?_
  exact ret_noneS (S' := T (tE (offG G) m i)) (.inl rfl) Tryz.results45 (Nat.le_of_eq (hT_ _).symm) (hok _).2 ⟨rfl, congrArg T (by unfold tE; split <;> split <;> omega)⟩
theorem each_cause (k : Int) (hk4 : k ≠ 4) (hk5 : k ≠ 5) (t1 : Sch) (hs : isF 16 (.mk k [t1]) = true) (h1 : isF 16 t1 = true) (n0 m0 : Int) (s0 : List Bs) (c0 : List (List Tk)) (w0 : List Val) (hw0 : 0 < w0.length) (hw : w0.length ≤ 1000) (hcl : c0.length = w0.length) (hb : ¬ bottomF (.mk k [t1]) = .mk n0 m0 s0 c0 w0) (Y : Nat → List Val) (hit : ∀ i x, w0[i]? = some x → EachOk t1 x (Y i)) : EachOk (.mk k [t1]) (.mk n0 m0 s0 c0 w0) ((List.range w0.length).flatMap (fun i => (innerF (bottomF t1) (fun _ => Y i) (w0.getD i noV)).map fun p => Val.mk 0 0 [] [c0.getD i []] [p])) := by
 obtain ⟨k1, i1_⟩ := t1
 generalize hG : (fun i => (innerF (bottomF (.mk k1 i1_)) (fun _ => Y i) (w0.getD i noV)).map fun p => Val.mk 0 0 [] [c0.getD i []] [p]) = G
 intro i1 i2 l0
 refine GiveOk.iter (k := 45) (first := []) ?_
 intro id T m hok hm hyt hyf
 have hT : ∀ j, (T j).length = l0 := fun j => (hok j).1.1
 have hT_ : ∀ j, (T j).length = (T 0).length := fun j => (hT j).trans (hT 0).symm
 have hsB : ∀ j, (T j)[i1]? = some (.cells (encS (.mk k [.mk k1 i1_])).cells) := fun j => (hok j).1.2.hd
 have hvB : ∀ j, (T j)[i2]? = some (.cells (encV (.mk n0 m0 s0 c0 w0)).cells) := fun j => (hok j).1.2.tl.hd
 have htot : (((List.range w0.length).flatMap G).map fun p => [encV p]).length = offG G w0.length := by rw [List.length_map]; rfl
 rw [htot] at hm ⊢
 have hcall : ∀ i, i < w0.length → offG G i ≤ m → MCalls Tryz.prog 50 [encS (.mk k [.mk k1 i1_]), encV (.mk n0 m0 s0 c0 w0), .int .i64 (i : Int), .yld id] (T (offG G i) ++ OwnI i) fun v σ' => v = .bool (decide (offG G (i + 1) ≤ m)) ∧ σ' = T (tE (offG G) m (i + 1)) ++ OwnI i := by
  intro i hi ha
  obtain ⟨x, hx⟩ : ∃ x, w0[i]? = some x := ⟨_, List.getElem?_eq_getElem hi⟩
  obtain ⟨cx, hcx⟩ : ∃ x, c0[i]? = some x := ⟨_, List.getElem?_eq_getElem (by omega)⟩
  exact give_round (i := i) (args := fun id => [encS (.mk k [.mk k1 i1_]), encV (.mk n0 m0 s0 c0 w0), .int .i64 (i : Int), .yld id]) (sib_give k (.mk k1 i1_) h1 n0 m0 s0 c0 w0 i x cx hx hcx (by omega) (Y i) (hit i x hx) [] (l0 + (i + 1))) (by rw [← hG, List.map_map]; simp [Function.comp_def, hx, hcx, innerF]) hok rfl (fun j => .nil) hi hyt hyf ha
 refine mcalls_body Tryz.func45 rfl Tryz.ntmps45 (Nat.le_of_ble_eq_true rfl) ?_
 refine mwp_seq <| mwp_seq <| qR rfl <| qO rfl <| op_load_ref rfl rfl (by first | exact get_app (hsB _) | exact get_nil_app (get_app (hsB _))) ta24 rfl ?_
 refine qO rfl <| op_load_ref rfl rfl (by first | exact get_app (hvB _) | exact get_nil_app (get_app (hvB _))) ta30 rfl ?_
 refine wOps_op rfl (op_call rfl rfl rfl co46 ((None_spec (.mk k [.mk k1 i1_]) (.mk n0 m0 s0 c0 w0) _).mono ?_))
 rintro _ _ ⟨rfl, rfl⟩
 have hno : noneF (.mk k [.mk k1 i1_]) (.mk n0 m0 s0 c0 w0) = false := by unfold noneF; rw [bot_eq hs (Nat.le_refl _)]; exact decide_eq_false hb
 rw [hno]
 refine qN <| mwp_cond_f rfl (rfl) <| mwp_skip <| mwp_seq <| qR rfl <| qA rfl rfl rfl <| qN <| mwp_seq <| mwp_seq <| qR rfl <| qO rfl <| op_alloc' rfl zm3 rfl rfl <| qO rfl <| op_store' rfl rfl rfl rfl sz3 rfl rfl (Nat.le_of_ble_eq_true rfl) rfl <| qN <| mwp_block ?_
 have ht0 : tE (offG G) m 0 = 0 := if_pos (Nat.zero_le _)
 show mwp _ _ _ _ _ _ _ (([] : MS) ++ (T 0 ++ OwnI 0))
 refine mwp_loopK (α := Nat) [(0, _), (1, _), (2, _)] (fun i => [(5, .ref ((T 0).length + i) 0), (4, .bool (decide (offG G i ≤ m)))]) (fun i => T (tE (offG G) m i) ++ OwnI i) (fun i => i ≤ w0.length) (fun i => w0.length - i) (0) (.keep rfl (.keep rfl (.keep rfl (.nil)))) (.keep rfl (.eq rfl ((congrArg MV.bool (decide_eq_true (Nat.zero_le _)).symm)) (.nil))) (Nat.zero_le _) (by show _ = T (tE (offG G) m 0) ++ OwnI 0; rw [ht0]) ?_
 rintro i hi
 refine mwp_seq <| mwp_seq <| qR rfl <| qO rfl <| op_load_ref rfl rfl (by first | exact getI (hT_ _) | exact get_nil_app (getI (hT_ _))) ta3 rfl ?_
 refine qF rfl rfl rfl fo30_4 <| qO rfl <| op_load_ref rfl rfl (by first | exact get_app (hvB _) | exact get_nil_app (get_app (hvB _))) ta28 rfl ?_
 refine qE rfl rfl Tryz.underlying28 rfl <| qC rfl rfl rfl rfl rfl <| qM rfl rfl rfl ?_
 refine wOps_case (fun h15 => ?_) (fun h15 => ?_)
 ·
  have hlt : i < w0.length := by have := of_decide_eq_true h15; rw [encVs_length] at this; omega
  refine qM rfl rfl rfl <| qP rfl rfl rfl rfl <| qN ?_
  refine mwp_cond_split rfl (fun h17 => ?_) (fun h17 => ?_)
  ·
   have hgo : offG G i ≤ m := of_decide_eq_true h17
   have hcl_ := hcall i hlt hgo
   have hte : tE (offG G) m i = offG G i := if_pos hgo
   rw [hte]
   refine mwp_skip <| mwp_seq <| mwp_block <| mwp_seq <| qR rfl <| qF rfl rfl rfl fo24_0 <| qO rfl <| op_load_ref rfl rfl (by first | exact get_app (hsB _) | exact get_nil_app (get_app (hsB _))) ta3 rfl ?_
   refine qN <| mwp_block <| mwp_seq <| qR rfl <| qC rfl rfl rfl rfl (eqlN hk4) <| qA rfl rfl rfl <| qN <| mwp_cond_f rfl (rfl) <| mwp_seq <| qR rfl <| qC rfl rfl rfl rfl (eqlN hk5) <| qA rfl rfl rfl <| qN <| mwp_cond_f rfl (rfl) <| qR rfl <| qO rfl <| op_load_ref rfl rfl (by first | exact get_app (hsB _) | exact get_nil_app (get_app (hsB _))) ta24 rfl ?_
   refine qO rfl <| op_load_ref rfl rfl (by first | exact get_app (hvB _) | exact get_nil_app (get_app (hvB _))) ta30 rfl ?_
   refine qO rfl <| op_load_ref rfl rfl (by first | exact getI (hT_ _) | exact get_nil_app (getI (hT_ _))) ta3 rfl ?_
   refine qM rfl rfl rfl ?_
   refine wOps_op rfl (op_call rfl rfl rfl co50 ((hcl_).mono ?_))
   rintro _ _ ⟨rfl, rfl⟩
   refine qA rfl rfl rfl <| qN <| mwp_seq <| mwp_seq <| qR rfl <| qO rfl <| op_load_ref rfl rfl (by first | exact getI (hT_ _) | exact get_nil_app (getI (hT_ _))) ta3 rfl ?_
   refine qN <| qR rfl <| qO rfl <| op_alloc rfl zm3 ?_
   show wOps _ _ _ _ _ _ (T (tE (offG G) m (i + 1)) ++ OwnI i ++ [.cells [.int .i64 0]])
   rw [List.append_assoc, show (T (tE (offG G) m (i + 1)) ++ OwnI i).length = (T 0).length + (i + 1) from lenX (hT_ _)]
   refine qO rfl <| op_store (id := (T 0).length + (i + 1)) rfl rfl rfl (by exact getX (hT_ _)) sz3 rfl rfl (Nat.le_of_ble_eq_true rfl) ?_
   rw [setX (hT_ _)]
   refine qN <| qR rfl <| qO rfl <| op_load_ref rfl rfl (by exact getX (hT_ _)) ta3 rfl ?_
   refine qO rfl <| op_arith rfl rfl rfl (wadd (a := i) (b := 1) rfl (by omega)) ?_
   refine qO rfl <| op_store (id := (T 0).length + (i + 1)) rfl rfl rfl (by exact getX (hT_ _)) sz3 rfl rfl (Nat.le_of_ble_eq_true rfl) ?_
   rw [setX (hT_ _)]
   refine qN ?_
   refine ⟨i + 1, by omega, by omega, by rw [own_succ]; rfl, (.keep rfl (.keep rfl (.keep rfl (.nil)))), (.eq rfl (rfl) (.eq rfl (rfl) (.nil)))⟩
  ·
   have hno2 : ¬ offG G i ≤ m := of_decide_eq_false h17
   have hofl := off_le G hi
   refine mwp_exit <| mwp_seq <| qR rfl <| qF rfl rfl rfl fo30_4 <| qO rfl <| op_load_ref rfl rfl (by first | exact get_app (hvB _) | exact get_nil_app (get_app (hvB _))) ta28 rfl ?_
   refine qE rfl rfl Tryz.underlying28 rfl <| qC rfl rfl rfl rfl (eqlN (by rw [encVs_length]; omega)) ?_
   refine qN <| mwp_cond_f rfl (rfl) <| mwp_skip ?_
   exact ret_noneS (S' := T (tE (offG G) m i)) (.inl rfl) Tryz.results45 (Nat.le_of_eq (hT_ _).symm) (hok _).2 ⟨rfl, congrArg T (by unfold tE; split <;> split <;> omega)⟩
 ·
  have hge : i = w0.length := by have := of_decide_eq_false h15; rw [encVs_length] at this; omega
  have hot : offG G i = offG G w0.length := by rw [hge]
  refine qS rfl <| qP rfl rfl rfl rfl <| qN <| mwp_cond_f rfl (rfl) <| mwp_exit <| mwp_seq <| qR rfl <| qF rfl rfl rfl fo30_4 <| qO rfl <| op_load_ref rfl rfl (by first | exact get_app (hvB _) | exact get_nil_app (get_app (hvB _))) ta28 rfl ?_
  refine qE rfl rfl Tryz.underlying28 rfl <| qC rfl rfl rfl rfl (eqlN (by rw [encVs_length]; omega)) ?_
  refine qN <| mwp_cond_f rfl (rfl) <| mwp_skip ?_
  exact ret_noneS (S' := T (tE (offG G) m i)) (.inl rfl) Tryz.results45 (Nat.le_of_eq (hT_ _).symm) (hok _).2 ⟨rfl, congrArg T (by unfold tE; split <;> split <;> omega)⟩
end Go.Proofs.YtnfcnpdpfgcchaaGreat
end
section
set_option linter.unusedVariables false
set_option linter.unusedSimpArgs false
set_option maxRecDepth 20000
set_option maxHeartbeats 400000
namespace Go.Proofs.YtnfcnpdpfgcchaaGreat
open Go Go.MV
theorem getD_nV {w : List Val} {i : Nat} {x : Val} (h : w[i]? = some x) : w.getD i noV = x := by simp [h]
theorem each_ok : ∀ (d : Nat) (s : Sch), isF d s = true → d ≤ 16 → noK7 d s = true → ∀ v : Val, isVF s v = true → EachOk s v (partsD d s v)
 | 0, s, h => by simp [isF] at h
 | d + 1, .mk k ins, h => by
  intro hd h7 ⟨n, m, s, c, w⟩ hv
  have hs : isF 16 (.mk k ins) = true := isF_le hd h
  rw [isF] at h
  simp only [Bool.and_eq_true, List.all_eq_true, beq_iff_eq] at h
  rw [noK7, Bool.and_eq_true, List.all_eq_true] at h7
  have hk7 : k ≠ 7 := by simpa using h7.1
  by_cases hb : bottomF (.mk k ins) = .mk n m s c w
  ·rw [parts_none hb]
   exact each_none k ins hs n m s c w hb
  by_cases hw : w = []
  ·subst hw
   rw [parts_leaf hb]
   by_cases hk3 : k = 3
   ·subst hk3
    exact each_leaf3 3 ins hs n m s c hb
   ·exact each_leaf1 k hk3 hk7 ins hs n m s c hb
  have hw0 : 0 < w.length := List.length_pos_iff.2 hw
  rw [parts_in hb hw]
  rcases k8_of h.1 with rfl | rfl | rfl | rfl | rfl | rfl | rfl | rfl
  ·rw [isVF_mk 1] at hv
   simp [bareF, numsK, textsK, clocksK, valuesK, Val.nv, Val.mv, Val.sv, Val.cv, Val.vv] at hv
   exact absurd hv.1.1.2 hw
  ·rw [isVF_mk 2] at hv
   simp [bareF, numsK, textsK, clocksK, valuesK, Val.nv, Val.mv, Val.sv, Val.cv, Val.vv] at hv
   exact absurd hv.1.1.1.2 hw
  ·rw [isVF_mk 3] at hv
   simp [bareF, numsK, textsK, clocksK, valuesK, Val.nv, Val.mv, Val.sv, Val.cv, Val.vv] at hv
   exact absurd hv.1.1.1.2 hw
  ·obtain ⟨t1, rfl⟩ := one_ins h.1 (by decide)
   rw [isVF_mk 4] at hv
   simp [bareF, numsK, textsK, clocksK, valuesK, Val.nv, Val.mv, Val.sv, Val.cv, Val.vv, isVL] at hv
   obtain ⟨⟨⟨⟨⟨⟨_, _⟩, _⟩, hwl⟩, _⟩, _, h5⟩, h6⟩ := (show (((((n = 0 ∧ m = 0) ∧ c = []) ∧ w.length ≤ 40) ∧ c.length ≤ 40) ∧ (isRowF s = true ∧ s.length = w.length)) ∧ ∀ (x : Val), x ∈ w → isVF t1 x = true ∧ noneF t1 x = false from ⟨⟨hv.1, hv.2.1⟩, hv.2.2⟩)
   exact each_map t1 hs n m s c w hw0 (by omega) h5 hb (fun i => partsD d t1 (w.getD i noV)) fun i x hx => by
    show EachOk t1 x (partsD d t1 (w.getD i noV))
    rw [getD_nV hx]
    exact each_ok d t1 (h.2 _ (by simp)) (by omega) (h7.2 _ (by simp)) x (h6 x (List.mem_of_getElem? hx)).1
  ·obtain ⟨t1, t2, rfl⟩ := two_of h.1
   rw [isVF_mk 5] at hv
   simp [bareF, numsK, textsK, clocksK, valuesK, Val.nv, Val.mv, Val.sv, Val.cv, Val.vv, isVL] at hv
   have h5 := hv.2
   match w, h5, hb, hw with
   | [x, y], h5, hb, hw =>
    simp at h5
    have a1 := each_ok d t1 (h.2 _ (by simp)) (by omega) (h7.2 _ (by simp)) x h5.1
    have a2 := each_ok d t2 (h.2 _ (by simp)) (by omega) (h7.2 _ (by simp)) y h5.2
    exact each_pair t1 t2 hs (isF_le (by omega) (h.2 _ (by simp))) (isF_le (by omega) (h.2 _ (by simp))) n m s c x y [x, y] rfl hb (fun i => partsD d ([t1, t2].getD i nS) ([x, y].getD i noV)) a1 a2
   | [], h5, hb, hw => simp at h5
   | [x], h5, hb, hw => simp at h5
   | _ :: _ :: _ :: _, h5, hb, hw => simp at h5
  ·rw [isVF_mk 6] at hv
   simp [bareF, numsK, textsK, clocksK, valuesK, Val.nv, Val.mv, Val.sv, Val.cv, Val.vv] at hv
   exact absurd hv.1.1.1.2 hw
  ·exact absurd rfl hk7
  ·obtain ⟨t1, rfl⟩ := one_ins h.1 (by decide)
   rw [isVF_mk 8] at hv
   simp [bareF, numsK, textsK, clocksK, valuesK, Val.nv, Val.mv, Val.sv, Val.cv, Val.vv, isVL] at hv
   obtain ⟨⟨⟨⟨⟨_, _⟩, _⟩, hwl⟩, _⟩, ⟨h4, _⟩, h6⟩ := hv
   exact each_cause 8 (by decide) (by decide) t1 hs (isF_le (by omega) (h.2 _ (by simp))) n m s c w hw0 (by omega) h4 hb (fun i => partsD d t1 (w.getD i noV)) fun i x hx => by
    show EachOk t1 x (partsD d t1 (w.getD i noV))
    rw [getD_nV hx]
    exact each_ok d t1 (h.2 _ (by simp)) (by omega) (h7.2 _ (by simp)) x (h6 x (List.mem_of_getElem? hx))
theorem at_filter {α : Type} (q : α → Bool) : ∀ {l : List α} {j : Nat} {y : α}, l[j]? = some y → q y = true → (l.filter q)[((l.take j).filter q).length]? = some y
 | [], j, y, h, _ => by simp at h
 | x :: l, 0, y, h, hq => by
  simp at h
  subst h
  simp [hq]
 | x :: l, j + 1, y, h, hq => by
  have ih := at_filter q (l := l) (j := j) (y := y) (by simpa using h) hq
  rw [List.take_succ_cons]
  cases hx : q x with
  | true => simp [hx, ih]
  | false => simp [hx, ih]
def cntQ (q : Val → Bool) (ys : List Val) (j : Nat) : Nat := ((ys.take j).filter q).length
theorem cnt_succ {q : Val → Bool} {ys : List Val} {j : Nat} {y : Val} (h : ys[j]? = some y) : cntQ q ys (j + 1) = cntQ q ys j + if q y = true then 1 else 0 := by
 unfold cntQ
 rw [List.take_add_one, h, Option.toList_some, List.filter_append, List.length_append]
 congr 1
 cases hq : q y <;> simp [hq]
theorem cnt_all (q : Val → Bool) (ys : List Val) : cntQ q ys ys.length = (ys.filter q).length := by unfold cntQ; rw [List.take_length]
def goQ (q : Val → Bool) (ys : List Val) (m j : Nat) : Bool := !(q (ys.getD j noV) && decide (cntQ q ys j = m))
theorem cnt_le {q : Val → Bool} {ys : List Val} {m : Nat} : ∀ j, j ≤ ys.length → (∀ i, i < j → goQ q ys m i = true) → cntQ q ys j ≤ m
 | 0, _, _ => by simp [cntQ]
 | j + 1, hj, h => by
  have ih := cnt_le (q := q) (ys := ys) (m := m) j (by omega) fun i hi => h i (by omega)
  obtain ⟨y, hy⟩ : ∃ y, ys[j]? = some y := ⟨_, List.getElem?_eq_getElem (by omega)⟩
  have hg := h j (by omega)
  unfold goQ at hg
  rw [getD_nV hy] at hg
  rw [cnt_succ hy]
  cases hq : q y with
  | false => simpa using ih
  | true =>
   rw [hq] at hg
   simp at hg
   simp
   omega
theorem kept_spec (k ks : FuncId) (caps capss : List MV) (S : MS) : MCalls Tryz.prog 33 [.fn (.func k) [] caps, .fn (.func ks) [] capss] S fun r σ' => r = .fn (.func 62) [] [.ref S.length 0, .ref (S.length + 1) 0] ∧ σ' = S ++ [.cells [.fn (.func k) [] caps], .cells [.fn (.func ks) [] capss]] := by
 refine mcalls_body Tryz.func33 rfl Tryz.ntmps33 (Nat.le_of_ble_eq_true rfl) ?_
 refine mwp_seq <| qR rfl <| qB rfl rfl rfl rfl rfl <| qB rfl rfl rfl rfl rfl <| qA rfl rfl rfl <| qN <| mwp_seq <| qR rfl <| qO rfl <| op_makeFunc rfl rfl rfl <| qA rfl rfl rfl <| qN ?_
 refine mwp_facts fun hcv hcl => ?_
 refine mwp_ret ?_
 exact ret_tmpT (.inr rfl) Tryz.results33 rfl (.refl _) (hcv 4 _ rfl) (by simp) hcl ⟨rfl, rfl⟩
theorem kept_iter (k ks : FuncId) (hco : CallOk Tryz.prog k) (hcs_ : CallOk Tryz.prog ks) (caps capss : List MV) (ys : List Val) (q : Val → Bool) (F : List (Nat × MObj)) (hit : VIter k caps ys F) (hso : ∀ p ∈ ys, ∀ S', Sees F S' → MCalls Tryz.prog ks ([] ++ [encV p] ++ capss) S' fun r σ' => r = .bool (q p) ∧ σ' = S') (il is : Nat) :
  VIter 62 [.ref il 0, .ref is 0] (ys.filter q) ((il, .cells [.fn (.func k) [] caps]) :: (is, .cells [.fn (.func ks) [] capss]) :: F) := by
 intro l0
 refine GiveOk.iter (k := 62) (first := []) ?_
 intro id T m hok hm hyt hyf
 have hT : ∀ j, (T j).length = l0 := fun j => (hok j).1.1
 have hT_ : ∀ j, (T j).length = (T 0).length := fun j => (hT j).trans (hT 0).symm
 have hFs : ∀ p ∈ F, p ∈ (il, MObj.cells [.fn (.func k) [] caps]) :: (is, .cells [.fn (.func ks) [] capss]) :: F := fun p hp => List.mem_cons_of_mem _ (List.mem_cons_of_mem _ hp)
 refine mcalls_body Tryz.func62 rfl Tryz.ntmps62 (Nat.le_of_ble_eq_true rfl) ?_
 refine mwp_seq <| qR rfl <| qB rfl rfl rfl rfl rfl <| qN <| mwp_seq <| qR rfl <| qO rfl <| op_load_ref rfl rfl (get_app (hok 0).1.2.hd) ta62 rfl <| qN <| mwp_block ?_
 show mwp _ _ _ _ _ _ _ (T 0 ++ [.cells [.yld id]])
 refine mwp_facts fun _ hclW => ?_
 generalize hL0 : ([.cells [.yld id]] : MS) = L0 at hclW
 have hl8 : L0.length = 1 := by rw [← hL0]; rfl
 show mwp _ _ _ _ _ _ _ (([] : MS) ++ (T 0 ++ L0))
 refine mwp_rangeC (L0 := _) .ret (.inl rfl) (fun j => goQ q ys m j) (fun j => T (cntQ q ys j) ++ L0) (fun j => T (cntQ q ys j) ++ L0) (fun j => T (cntQ q ys j + 1) ++ L0) (fun j => by simp [hT]) (fun j => by simp [hT]) (fun j => by simp [hT]) rfl
  (fun j o ho n hn => cls_two (hT_ _) hclW (hok _).2 ho hn) (fun j o ho n hn => cls_two (hT_ _) hclW (hok _).2 ho hn) (fun j o ho n hn => cls_two (hT_ _) hclW (hok _).2 ho hn) rfl hco rfl (by simp [hT]) ((hit ((T 0).length + 2)).two)
  (fun j => ⟨by simp [hT, hl8], fun p hp => get_app (get_nil_app (get_app ((hok _).1.2 p (hFs p hp))))⟩) (fun j hj => rfl) (fun j s q_ => ⟨by simp [hT, hl8], fun p hp => get_app (get_nil_app (get_app ((hok _).1.2 p (hFs p hp))))⟩) rfl (fun y hy => by obtain ⟨i, _, rfl⟩ := List.mem_map.1 hy; rfl) ?_ ?_ ?_
 ·
  intro j y hy hbef L'
  rw [List.getElem?_map] at hy
  obtain ⟨p, hp, rfl⟩ := Option.map_eq_some_iff.1 hy
  obtain ⟨n1, m1, s1, c1, w1⟩ := p
  have hjl := (List.getElem?_eq_some_iff.1 hp).1
  have hcm := cnt_le j (by omega) hbef
  have hsq := hso (.mk n1 m1 s1 c1 w1) (List.mem_of_getElem? hp)
  have hgo : goQ q ys m j = !(q (.mk n1 m1 s1 c1 w1) && decide (cntQ q ys j = m)) := by unfold goQ; rw [getD_nV hp]
  have hcs := cnt_succ (q := q) hp
  have hlw : (T (cntQ q ys j)).length = (T 0).length := hT_ _
  refine qR rfl <| qO rfl <| op_alloc rfl zm30 <| qO rfl <| op_store_last rfl rfl rfl sz30 rfl rfl (Nat.le_of_ble_eq_true rfl) <| qN ?_
  refine ⟨rfl, [_], rfl, ?_⟩
  rw [flat4]
  refine mwp_abs fun R hR => ?_
  have hse : ∀ (X : MS), Sees F (T (cntQ q ys j) ++ X) := fun X => Sees.app fun p hp => (hok _).1.2 p (hFs p hp)
  obtain ⟨r, hr⟩ : ∃ r, q (.mk n1 m1 s1 c1 w1) = r := ⟨_, rfl⟩
  rw [hr] at hsq hgo hcs
  refine mwp_block <| mwp_seq ?_
  rcases r with _ | _
  rotate_left
  rcases Nat.lt_or_eq_of_le hcm with hclt | hceq
  rotate_right
  ·
   refine qR rfl <| qO rfl <| op_load_ref rfl rfl (get_app (hok _).1.2.tl.hd) ta75 rfl <| qO rfl <| op_viewTo (y := encV (.mk n1 m1 s1 c1 w1)) (op_load_ref rfl rfl (by rw [hR]; exact get_rtN ((hT_ _).trans (hT_ _).symm)) ta30 rfl ⟨rfl, rfl⟩) (.refl _) ?_
   refine wOps_op rfl (op_call rfl rfl rfl hcs_ ((hsq _ (hse R)).mono ?_))
   rintro _ _ ⟨rfl, rfl⟩
   refine qM rfl rfl rfl <| qS rfl <| qS rfl <| qS rfl <| qS rfl <| qP rfl rfl rfl rfl <| qN <| mwp_cond_f rfl (rfl) <| mwp_skip ?_
   exact .inl ⟨by rw [hgo]; first | rfl | (rw [decide_eq_false (by omega)]; rfl), rfl, [_], by rw [hcs, hR]; exact flat4.symm⟩
  ·
   have hyg : ((ys.filter q).map fun p => [encV p])[cntQ q ys j]? = some [encV (.mk n1 m1 s1 c1 w1)] := by rw [List.getElem?_map]; unfold cntQ; rw [at_filter q hp hr]; rfl
   refine qR rfl <| qO rfl <| op_load_ref rfl rfl (get_app (hok _).1.2.tl.hd) ta75 rfl <| qO rfl <| op_viewTo (y := encV (.mk n1 m1 s1 c1 w1)) (op_load_ref rfl rfl (by rw [hR]; exact get_rtN ((hT_ _).trans (hT_ _).symm)) ta30 rfl ⟨rfl, rfl⟩) (.refl _) ?_
   refine wOps_op rfl (op_call rfl rfl rfl hcs_ ((hsq _ (hse R)).mono ?_))
   rintro _ _ ⟨rfl, rfl⟩
   refine qM rfl rfl rfl <| qO rfl <| op_load_ref rfl rfl (by rw [hR]; exact look2 (hT_ _) (k := 0) (by rw [← hL0]; rfl)) ta75 rfl ?_
   refine qO rfl <| op_viewTo (y := encV (.mk n1 m1 s1 c1 w1)) (op_load_ref rfl rfl (by rw [hR]; exact get_rtN ((hT_ _).trans (hT_ _).symm)) ta30 rfl ⟨rfl, rfl⟩) (.refl _) ?_
   refine qO rfl <| (hyt _ _ hclt hyg R _ _ _ _ _ _ rfl rfl rfl).mono ?_
   rintro _ _ ⟨rfl, rfl⟩
   refine qO rfl <| op_not rfl rfl <| qP rfl rfl rfl rfl <| qN <| mwp_cond_f rfl (rfl) <| mwp_skip ?_
   exact .inl ⟨by rw [hgo]; first | rfl | (rw [decide_eq_false (by omega)]; rfl), rfl, [_], by rw [hcs, hR]; exact flat4.symm⟩
  ·
   have hyg : ((ys.filter q).map fun p => [encV p])[cntQ q ys j]? = some [encV (.mk n1 m1 s1 c1 w1)] := by rw [List.getElem?_map]; unfold cntQ; rw [at_filter q hp hr]; rfl
   refine qR rfl <| qO rfl <| op_load_ref rfl rfl (get_app (hok _).1.2.tl.hd) ta75 rfl <| qO rfl <| op_viewTo (y := encV (.mk n1 m1 s1 c1 w1)) (op_load_ref rfl rfl (by rw [hR]; exact get_rtN ((hT_ _).trans (hT_ _).symm)) ta30 rfl ⟨rfl, rfl⟩) (.refl _) ?_
   refine wOps_op rfl (op_call rfl rfl rfl hcs_ ((hsq _ (hse R)).mono ?_))
   rintro _ _ ⟨rfl, rfl⟩
   refine qM rfl rfl rfl <| qO rfl <| op_load_ref rfl rfl (by rw [hR]; exact look2 (hT_ _) (k := 0) (by rw [← hL0]; rfl)) ta75 rfl ?_
   refine qO rfl <| op_viewTo (y := encV (.mk n1 m1 s1 c1 w1)) (op_load_ref rfl rfl (by rw [hR]; exact get_rtN ((hT_ _).trans (hT_ _).symm)) ta30 rfl ⟨rfl, rfl⟩) (.refl _) ?_
   refine qO rfl <| (hyf _ _ hceq hyg R _ _ _ _ _ _ rfl rfl rfl).mono ?_
   rintro _ _ ⟨rfl, rfl⟩
   refine qO rfl <| op_not rfl rfl <| qP rfl rfl rfl rfl <| qN <| mwp_cond_t rfl (rfl) <| mwp_ret ?_
   exact .inr ⟨by rw [hgo, decide_eq_true hceq]; rfl, rfl, [_], by rw [hR]; exact flat4.symm⟩
 ·
  intro hall
  have hmm : cntQ q ys ys.length = m := by
   have h1 := cnt_le (q := q) (ys := ys) (m := m) ys.length (Nat.le_refl _) (fun i hi => hall i (by simpa using hi))
   have h2 := cnt_all q ys
   rw [List.length_map] at hm
   rcases Nat.lt_or_ge (cntQ q ys ys.length) m with h | h
   ·omega
   ·omega
  have e1 : (ys.map fun p => [encV p]).length = ys.length := List.length_map ..
  show BlockM _ _ _ _ ((T _ ++ L0) ++ [.gone])
  rw [List.append_assoc (T _) L0, e1, hmm]
  exact ret_noneS (S' := T m) (.inl rfl) Tryz.results62 (Nat.le_of_eq (hT_ _).symm) (hok _).2 ⟨rfl, by rw [List.length_map, ← cnt_all, hmm, if_neg (by omega)]⟩
 ·
  intro j y hy hp
  rw [List.getElem?_map] at hy
  obtain ⟨p, hp2, rfl⟩ := Option.map_eq_some_iff.1 hy
  have hg : goQ q ys m j = !(q p && decide (cntQ q ys j = m)) := by unfold goQ; rw [getD_nV hp2]
  rw [hp] at hg
  have hq2 : q p = true ∧ cntQ q ys j = m := by
   have hh : (q p && decide (cntQ q ys j = m)) = true := by
    cases hh : (q p && decide (cntQ q ys j = m)) with
    | true => rfl
    | false => rw [hh] at hg; cases hg
   rw [Bool.and_eq_true] at hh
   exact ⟨hh.1, of_decide_eq_true hh.2⟩
  have hlt := (List.getElem?_eq_some_iff.1 (at_filter q hp2 hq2.1)).1
  have hlt2 : m < (ys.filter q).length := by rw [← hq2.2]; exact hlt
  show BodyQ _ _ _ _ _ _ ((T (cntQ q ys j + 1) ++ L0) ++ [.gone])
  rw [List.append_assoc (T (cntQ q ys j + 1)) L0]
  exact ret_noneS (S' := T (cntQ q ys j + 1)) (.inr rfl) Tryz.results62 (Nat.le_of_eq (hT_ _).symm) (hok _).2 ⟨rfl, by rw [hq2.2, List.length_map, if_pos hlt2]⟩
end Go.Proofs.YtnfcnpdpfgcchaaGreat
end
section
set_option linter.unusedVariables false
set_option linter.unusedSimpArgs false
set_option linter.unusedSectionVars false
set_option maxRecDepth 20000
namespace Go.Proofs.YtnfcnpdpfgcchaaGreat
open Go Go.MV
theorem eqlI {a b : Int} (h : a = b) : intCmp .eql a b = some true := by simp [intCmp, h]
section
variable {a b : List Tk} (ha : Go.MV.Up a) (hb : Go.MV.Up b) (pa : Go.MV.Pos a) (pb : Go.MV.Pos b)
include ha hb pa pb
end
section
variable {a b : List Tk} (ka : isClockF a = true) (kb : isClockF b = true) (oa : ∀ t ∈ a, okTk t) (ob : ∀ t ∈ b, okTk t) (la : a.length ≤ 15) (lb : b.length ≤ 15)
include ka kb oa ob la lb
end
section
variable {a b : List Tk} {x y : Int} (ka : isClockF a = true) (kb : isClockF b = true) (oa : ∀ t ∈ a, okTk t) (ob : ∀ t ∈ b, okTk t)
include ka kb oa ob
end
theorem both_iff {A B : List Bs} (ha : Up A) (hb : Up B) : bothX A B = B ↔ ∀ z ∈ A, z ∈ B := by
  constructor
  · intro h z hz
    rw [← h, mem_both]
    exact .inl hz
  · intro h
    refine up_ext (up_both A B ha hb) hb fun z => ?_
    rw [mem_both]
    exact ⟨fun hz => hz.elim (h z) id, .inr⟩
def setV (A : List Bs) : Val := .mk 0 0 A [] []
theorem leq_set {A B : List Bs} (ha : isRowF A = true) (hb : isRowF B = true) (ua : Up A) (ub : Up B) (hl : A.length + B.length ≤ 40) : leqVF (.mk 3 []) (setV A) (setV B) = .ok (decide (∀ z ∈ A, z ∈ B)) := by
  have h := join_set ha hb
  rw [if_neg (by have := both_len A B; omega)] at h
  unfold setV
  rw [leq_ok h]
  congr 1
  rw [decide_eq_decide, ← both_iff ua ub]
  simp
theorem leq_at {s : Sch} {a b : Val} {r : Except Int Bool} (ha : okV a) (hb : okV b) (h : leqVF s a b = r) (S : MS) : MCalls Tryz.prog 31 [encS s, encV a, encV b] S fun v σ' => v = encL r ∧ σ' = S := h ▸ leq_spec s a b ha hb S
end Go.Proofs.YtnfcnpdpfgcchaaGreat
end
section
set_option linter.unusedVariables false
set_option linter.unusedSimpArgs false
set_option maxRecDepth 20000
set_option maxHeartbeats 400000
namespace Go.Proofs.YtnfcnpdpfgcchaaGreat
open Go Go.MV
mutual
theorem okV_botA : ∀ s : Sch, okV (bottomF s)
 | .mk k ins => by
  rw [bot_mk]
  split
  ·exact okV_mk.2 ⟨by omega, by omega, by simp, okV_botL ins⟩
  ·simp [noV, okV, okVs]
theorem okV_botL : ∀ l : List Sch, ∀ x ∈ bottomL l, okV x
 | [], x, h => by simp [bottomL] at h
 | s :: l, x, h => by
  rw [bottomL] at h
  rcases List.mem_cons.1 h with rfl | h
  ·exact okV_botA s
  ·exact okV_botL l x h
end
theorem okV_no_ : okV noV := by simp [noV, okV, okVs]
theorem okV_getD {w : List Val} (h : ∀ x ∈ w, okV x) (i : Nat) : okV (w.getD i noV) := by
 rcases Nat.lt_or_ge i w.length with hi | hi
 ·rw [getD_nV (List.getElem?_eq_getElem hi)]
  exact h _ (List.getElem_mem hi)
 ·simp [List.getElem?_eq_none hi]
  exact okV_no_
theorem okT_getD {c : List (List Tk)} (h : ∀ x ∈ c, ∀ t ∈ x, okTk t) (i : Nat) : ∀ t ∈ c.getD i [], okTk t := by
 rcases Nat.lt_or_ge i c.length with hi | hi
 ·simp [List.getElem?_eq_getElem hi]
  exact fun a b h2 => h _ (List.getElem_mem hi) (a, b) h2
 ·simp [List.getElem?_eq_none hi]
theorem parts_okV : ∀ (d : Nat) (s : Sch) (v : Val), okV v → ∀ p ∈ partsD d s v, okV p
 | 0, _, _, _, p, hp => by simp [partsD] at hp
 | d + 1, .mk k ins, .mk n m s c w, ho, p, hp => by
  have o := okV_mk.1 ho
  rw [partsD] at hp
  split at hp
  ·cases hp
  ·split at hp
   ·by_cases h3 : k = 3
    ·subst h3
     simp [leavesF] at hp
     obtain ⟨t, _, rfl⟩ := hp
     simp [okV, okVs]
    ·simp [leavesF, h3] at hp
     subst hp
     exact ho
   ·obtain ⟨i, _, hp⟩ := List.mem_flatMap.1 hp
    unfold partAt at hp
    have hx := okV_getD o.2.2.2 i
    split at hp
    ·obtain ⟨q, hq, rfl⟩ := List.mem_map.1 hp
     have := parts_okV d _ _ hx q hq
     exact okV_mk.2 ⟨by omega, by omega, by simp, fun y hy => by simp at hy; subst hy; exact this⟩
    ·split at hp
     ·obtain ⟨q, hq, rfl⟩ := List.mem_map.1 hp
      have := parts_okV d _ _ hx q hq
      exact okV_mk.2 ⟨by omega, by omega, by simp, okV_setAt (okV_botL ins) this⟩
     ·obtain ⟨q, hq, rfl⟩ := List.mem_map.1 hp
      have hq2 : okV q := by
       unfold innerF at hq
       split at hq
       ·simp at hq; subst hq; exact hx
       ·exact parts_okV d _ _ hx q hq
      exact okV_mk.2 ⟨by omega, by omega, fun x hx t ht => by simp at hx; subst hx; exact okT_getD o.2.2.1 i t ht, fun y hy => by simp at hy; subst hy; exact hq2⟩
theorem diffAlone_spec (s : Sch) (a p : Val) (oa : okV a) (op : okV p) (ids ida : Nat) (S : MS) (hs : S[ids]? = some (.cells (encS s).cells)) (ha : S[ida]? = some (.cells (encV a).cells)) : MCalls Tryz.prog 34 [encV p, .ref ids 0, .ref ida 0] S fun v σ' => v = .bool (!leqB s a p) ∧ σ' = S := by
 obtain ⟨k, ins⟩ := s
 obtain ⟨n1, m1, s1, c1, w1⟩ := p
 obtain ⟨n2, m2, s2, c2, w2⟩ := a
 refine mcalls_body Tryz.func34 rfl Tryz.ntmps34 (Nat.le_of_ble_eq_true rfl) ?_
 refine mwp_seq <| qR rfl <| qB rfl rfl rfl rfl rfl <| qA rfl rfl rfl <| qN <| mwp_seq ?_
 have hof := leq_spec (.mk k ins) (.mk n1 m1 s1 c1 w1) (.mk n2 m2 s2 c2 w2) op oa
 rcases exE (leqVF (.mk k ins) (.mk n1 m1 s1 c1 w1) (.mk n2 m2 s2 c2 w2)) with ⟨e, hl⟩ | ⟨l, hl⟩ <;> rw [hl] at hof
 ·
  refine qR rfl <| qO rfl <| op_load_far rfl rfl hs ta24 rfl <| qL rfl rfl rfl rfl ta30 rfl <| qO rfl <| op_load_far rfl rfl ha ta30 rfl ?_
  refine wOps_op rfl (op_call rfl rfl rfl co31 ((hof _).mono ?_))
  rintro _ _ ⟨rfl, rfl⟩
  refine qM rfl rfl rfl <| qO rfl <| op_extract rfl rfl rfl <| qO rfl <| op_extract rfl rfl rfl <| qA rfl rfl rfl <| qA rfl rfl rfl <| qN <| mwp_seq <| qR rfl <| qM rfl rfl rfl <| qO rfl <| op_ifnil rfl Tryz.underlying34 rfl rfl (.inl ⟨rfl, rfl⟩) <| qM rfl rfl rfl <| qS rfl <| qS rfl <| qP rfl rfl rfl rfl <| qA rfl rfl rfl <| qN <| mwp_ret ?_
  exact ret_tmp (.inr rfl) Tryz.results34 rfl (.of_eq (congrArg MV.bool (by unfold leqB; rw [hl]; rfl))) (.bool _) ⟨rfl, rfl⟩
 ·
  refine qR rfl <| qO rfl <| op_load_far rfl rfl hs ta24 rfl <| qL rfl rfl rfl rfl ta30 rfl <| qO rfl <| op_load_far rfl rfl ha ta30 rfl ?_
  refine wOps_op rfl (op_call rfl rfl rfl co31 ((hof _).mono ?_))
  rintro _ _ ⟨rfl, rfl⟩
  refine qM rfl rfl rfl <| qO rfl <| op_extract rfl rfl rfl <| qO rfl <| op_extract rfl rfl rfl <| qA rfl rfl rfl <| qA rfl rfl rfl <| qN <| mwp_seq <| qR rfl <| qM rfl rfl rfl <| qO rfl <| op_if0 rfl Tryz.underlying34 rfl rfl (.inl ⟨rfl, rfl⟩) <| qM rfl rfl rfl <| qM rfl rfl rfl <| qO rfl <| op_not rfl rfl <| qP rfl rfl rfl rfl <| qA rfl rfl rfl <| qN <| mwp_ret ?_
  exact ret_tmp (.inr rfl) Tryz.results34 rfl (.of_eq (congrArg MV.bool (by unfold leqB; rw [hl]))) (.bool _) ⟨rfl, rfl⟩
theorem valIs_at {s : Sch} {v : Val} {b : Bool} (h : (isF 16 s && isVF s v) = b) (ov : okV v) (S : MS) : MCalls Tryz.prog 23 [encS s, encV v] S fun r σ' => r = .bool b ∧ σ' = S := by rw [← h]; exact valIs_spec s v ov S
theorem Parts_bad (s : Sch) (v : Val) (ov : okV v) (h : (isF 16 s && isVF s v) = false) (S : MS) : MCalls Tryz.prog 10 [encS s, encV v] S fun r σ' => r = .tup [.lst0, encErr 14] ∧ σ' = S := by
 obtain ⟨k, ins⟩ := s
 obtain ⟨n, m, s0, c, w⟩ := v
 refine mcalls_body Tryz.func10 rfl Tryz.ntmps10 (Nat.le_of_ble_eq_true rfl) ?_
 refine mwp_seq <| qR rfl <| qB rfl rfl rfl rfl rfl <| qB rfl rfl rfl rfl rfl <| qA rfl rfl rfl <| qA rfl rfl rfl <| qN <| mwp_seq <| mwp_seq <| qR rfl <| qL rfl rfl rfl rfl ta24 rfl <| qL rfl rfl rfl rfl ta30 rfl ?_
 refine wOps_op rfl (op_call rfl rfl rfl co23 ((valIs_at (s := (.mk k ins)) (v := (.mk n m s0 c w)) h ov _).mono ?_))
 rintro _ _ ⟨rfl, rfl⟩
 refine qO rfl <| op_not rfl rfl <| qN <| mwp_cond_t rfl (rfl) <| mwp_seq <| qR rfl <| qO rfl <| op_makeInterface rfl rfl Tryz.underlying58 (by simp) ?_
 refine qA rfl rfl rfl <| qA rfl rfl rfl <| qN <| mwp_ret ?_
 exact ret_tmp2 (.inr rfl) Tryz.results10 rfl rfl (.refl _) (.refl _) (.lst0) (.iface _ _ (.int _ _)) ⟨rfl, rfl⟩
theorem row_at (s : Sch) (v : Val) {ys : List Val} {i1 i2 : Nat} (S : MS) (h1 : S[i1]? = some (.cells (encS s).cells)) (h2 : S[i2]? = some (.cells (encV v).cells)) (h : EachOk s v ys) (hl : ys.length ≤ 1000000) : MCalls Tryz.prog 24 [.fn (.func 45) [] [.ref i1 0, .ref i2 0]] S fun r σ' => r = .lst none 5 (encVs ys) ∧ σ' = S :=
 row_spec 45 co45 _ ys _ S (.cons h1 (.cons h2 .nil)) (h i1 i2) hl
theorem Parts_ok (s : Sch) (v : Val) (ov : okV v) (hs : isF 16 s = true) (h7 : noK7 16 s = true) (hv : isVF s v = true) (hl : (partsD 16 s v).length ≤ 1000000) (S : MS) : MCalls Tryz.prog 10 [encS s, encV v] S fun r σ' => r = .tup [.lst none 5 (encVs (partsD 16 s v)), .iface0] ∧ σ' = S := by
 obtain ⟨k, ins⟩ := s
 obtain ⟨n, m, s0, c, w⟩ := v
 refine mcalls_body Tryz.func10 rfl Tryz.ntmps10 (Nat.le_of_ble_eq_true rfl) ?_
 refine mwp_seq <| qR rfl <| qB rfl rfl rfl rfl rfl <| qB rfl rfl rfl rfl rfl <| qA rfl rfl rfl <| qA rfl rfl rfl <| qN <| mwp_seq <| mwp_seq <| qR rfl <| qL rfl rfl rfl rfl ta24 rfl <| qL rfl rfl rfl rfl ta30 rfl ?_
 refine wOps_op rfl (op_call rfl rfl rfl co23 ((valIs_at (s := (.mk k ins)) (v := (.mk n m s0 c w)) (b := true) (by rw [hs, hv]; rfl) ov _).mono ?_))
 rintro _ _ ⟨rfl, rfl⟩
 refine qO rfl <| op_not rfl rfl <| qN <| mwp_cond_f rfl (rfl) <| mwp_skip <| mwp_seq <| qR rfl <| qL rfl rfl rfl rfl ta24 rfl <| qL rfl rfl rfl rfl ta30 rfl ?_
 refine wOps_op rfl (op_call rfl rfl rfl co25 ((each_at (.mk k ins) (.mk n m s0 c w) rfl).mono ?_))
 rintro _ _ ⟨rfl, rfl⟩
 refine wOps_op rfl (op_call rfl rfl rfl co24 ((row_at (.mk k ins) (.mk n m s0 c w) _ (by rw [getElem?_own]; rfl) (by rw [getElem?_own]; rfl) (each_ok 16 _ hs (Nat.le_refl _) h7 _ hv) hl).mono ?_))
 rintro _ _ ⟨rfl, rfl⟩
 refine qA rfl rfl rfl <| qA rfl rfl rfl <| qN <| mwp_ret ?_
 exact ret_tmp2 (.inr rfl) Tryz.results10 rfl rfl (.refl _) (.refl _) (cl_encVl _ _) (.iface0) ⟨rfl, rfl⟩
theorem kept_at (k ks : FuncId) (caps capss : List MV) {S L : MS} {n : Nat} (hL : L.length = n) : MCalls Tryz.prog 33 [.fn (.func k) [] caps, .fn (.func ks) [] capss] (S ++ L) fun r σ' => r = .fn (.func 62) [] [.ref (S.length + n) 0, .ref (S.length + (n + 1)) 0] ∧ σ' = S ++ (L ++ [.cells [.fn (.func k) [] caps], .cells [.fn (.func ks) [] capss]]) := by
 refine (kept_spec k ks caps capss (S ++ L)).mono ?_
 rintro r σ' ⟨rfl, rfl⟩
 rw [List.length_append, hL, List.append_assoc]
 exact ⟨rfl, rfl⟩
theorem Diff_ok (s : Sch) (a b : Val) (oa : okV a) (ob : okV b) (hs : isF 16 s = true) (h7 : noK7 16 s = true) (hv : isVF s b = true) (l : Bool) (hle : leqVF s a b = .ok l) (hl : (partsD 16 s b).length ≤ 1000000) (r : Val) (hr : diffVF s a b = .ok r) (S : MS) : MCalls Tryz.prog 17 [encS s, encV a, encV b] S fun v σ' => v = .tup [encV r, .iface0] ∧ σ' = S := by
 obtain ⟨k, ins⟩ := s
 obtain ⟨n1, m1, s1, c1, w1⟩ := a
 obtain ⟨n2, m2, s2, c2, w2⟩ := b
 obtain ⟨n3, m3, s3, c3, w3⟩ := r
 refine mcalls_body Tryz.func17 rfl Tryz.ntmps17 (Nat.le_of_ble_eq_true rfl) ?_
 have hki := fun il is => kept_iter 45 34 co45 co34 [.ref (S.length + 4) 0, .ref (S.length + 5) 0] [.ref (S.length + 0) 0, .ref (S.length + 1) 0] (partsD 16 (.mk k ins) (.mk n2 m2 s2 c2 w2)) (fun p => !leqB (.mk k ins) (.mk n1 m1 s1 c1 w1) p) [(S.length + 4, .cells (encS (.mk k ins)).cells), (S.length + 5, .cells (encV (.mk n2 m2 s2 c2 w2)).cells), (S.length + 0, .cells (encS (.mk k ins)).cells), (S.length + 1, .cells (encV (.mk n1 m1 s1 c1 w1)).cells)]
  (fun l0 => ((each_ok 16 _ hs (Nat.le_refl _) h7 _ hv (S.length + 4) (S.length + 5)) l0).weak fun σ h => ⟨⟨h.1.1, .cons h.1.2.hd (.cons h.1.2.tl.hd .nil)⟩, h.2⟩) (fun p hp S' hS => diffAlone_spec (.mk k ins) (.mk n1 m1 s1 c1 w1) p oa (parts_okV 16 _ _ ob p hp) _ _ S' hS.tl.tl.hd hS.tl.tl.tl.hd) il is
 have hfl : ((partsD 16 (.mk k ins) (.mk n2 m2 s2 c2 w2)).filter fun p => !leqB (.mk k ins) (.mk n1 m1 s1 c1 w1) p).length ≤ 1000000 := Nat.le_trans (List.length_filter_le _ _) hl
 have hfo : ∀ x ∈ ((partsD 16 (.mk k ins) (.mk n2 m2 s2 c2 w2)).filter fun p => !leqB (.mk k ins) (.mk n1 m1 s1 c1 w1) p), okV x := fun x hx => parts_okV 16 _ _ ob x (List.mem_filter.1 hx).1
 have hd : diffVF (.mk k ins) (.mk n1 m1 s1 c1 w1) (.mk n2 m2 s2 c2 w2) = AllF (.mk k ins) ((partsD 16 (.mk k ins) (.mk n2 m2 s2 c2 w2)).filter fun p => !leqB (.mk k ins) (.mk n1 m1 s1 c1 w1) p) := by unfold diffVF; rw [hle]
 rw [hd] at hr
 refine mwp_seq <| qR rfl <| qB rfl rfl rfl rfl rfl <| qB rfl rfl rfl rfl rfl <| qB rfl rfl rfl rfl rfl <| qO rfl <| op_alloc' rfl zm30 rfl rfl <| qA rfl rfl rfl <| qN <| mwp_seq <| mwp_seq <| qR rfl <| qL rfl rfl rfl rfl ta24 rfl <| qL rfl rfl rfl rfl ta30 rfl <| qL rfl rfl rfl rfl ta30 rfl ?_
 refine wOps_op rfl (op_call rfl rfl rfl co31 ((leq_at (s := (.mk k ins)) (a := (.mk n1 m1 s1 c1 w1)) (b := (.mk n2 m2 s2 c2 w2)) oa ob hle _).mono ?_))
 rintro _ _ ⟨rfl, rfl⟩
 refine qM rfl rfl rfl <| qO rfl <| op_extract rfl rfl rfl <| qO rfl <| op_extract rfl rfl rfl <| qA rfl rfl rfl <| qA rfl rfl rfl <| qN <| mwp_seq <| qR rfl <| qM rfl rfl rfl <| qO rfl <| op_if0 rfl Tryz.underlying34 rfl rfl (.inr ⟨rfl, rfl⟩) <| qN <| mwp_cond_f rfl (rfl) <| mwp_skip <| mwp_seq ?_
 refine mwp_draw [3, 5, 10] [_, S ++ [.cells (encS (.mk k ins)).cells, .cells (encV (.mk n1 m1 s1 c1 w1)).cells, .cells (encV (.mk n2 m2 s2 c2 w2)).cells, .cells [.int .u64 0, .int .u64 0, .lst0, .lst0, .lst0], .cells (encS (.mk k ins)).cells, .cells (encV (.mk n2 m2 s2 c2 w2)).cells], S ++ [.cells (encS (.mk k ins)).cells, .cells (encV (.mk n1 m1 s1 c1 w1)).cells, .cells (encV (.mk n2 m2 s2 c2 w2)).cells, .cells [.int .u64 0, .int .u64 0, .lst0, .lst0, .lst0], .cells (encS (.mk k ins)).cells, .cells (encV (.mk n2 m2 s2 c2 w2)).cells, .cells [.fn (.func 45) [] [.ref (S.length + 4) 0, .ref (S.length + 5) 0]], .cells [.fn (.func 34) [] [.ref (S.length + 0) 0, .ref (S.length + 1) 0]]], S ++ [.cells (encS (.mk k ins)).cells, .cells (encV (.mk n1 m1 s1 c1 w1)).cells, .cells (encV (.mk n2 m2 s2 c2 w2)).cells, .cells (encV (.mk n3 m3 s3 c3 w3)).cells, .cells (encS (.mk k ins)).cells, .cells (encV (.mk n2 m2 s2 c2 w2)).cells, .cells [.fn (.func 45) [] [.ref (S.length + 4) 0, .ref (S.length + 5) 0]], .cells [.fn (.func 34) [] [.ref (S.length + 0) 0, .ref (S.length + 1) 0]]]] mo (by decide) rfl rfl rfl rfl ?_
 refine dOps_op rfl rfl (.cons (op_load' rfl rfl rfl ta24 rfl ⟨rfl, rfl⟩) (.cons (op_load' rfl rfl rfl ta24 rfl ⟨rfl, rfl⟩) (.cons (op_load' rfl rfl rfl ta24 rfl ⟨rfl, rfl⟩) (.nil)))) <| dO rfl rfl rfl (op_load' rfl rfl rfl ta24 rfl ⟨rfl, rfl⟩) <| dO rfl rfl rfl (op_load' rfl rfl rfl ta30 rfl ⟨rfl, rfl⟩) <| dOps_eff rfl rfl rfl rfl (op_call rfl rfl rfl co25 (each_at (.mk k ins) (.mk n2 m2 s2 c2 w2) rfl)) <| dOps_op rfl rfl (.cons (op_makeFunc rfl rfl rfl ⟨rfl, rfl⟩) (.cons (op_makeFunc rfl rfl rfl ⟨rfl, rfl⟩) (.nil))) <| dOps_eff rfl rfl rfl rfl (op_call rfl rfl rfl co33 (kept_at _ _ _ _ rfl)) ?_
 refine dOps_op rfl rfl (.cons (op_call rfl rfl rfl co24 (row_spec 62 co62 _ _ _ _ (.cons (by rw [getElem?_own]; rfl) (.cons (by rw [getElem?_own]; rfl) (.cons (by rw [getElem?_own]; rfl) (.cons (by rw [getElem?_own]; rfl) (.cons (by rw [getElem?_own]; rfl) (.cons (by rw [getElem?_own]; rfl) .nil)))))) (hki (S.length + 6) (S.length + 7)) hfl)) .nil) ?_
 refine dOps_op rfl rfl (.cons (op_call rfl rfl rfl co32 (all_at_ (s := (.mk k ins)) hfo hr _)) (.cons (op_call rfl rfl rfl co32 (all_at_ (s := (.mk k ins)) hfo hr _)) (.cons (op_call rfl rfl rfl co32 (all_at_ (s := (.mk k ins)) hfo hr _)) (.nil)))) <| dOps_op rfl rfl (.cons (op_extract rfl rfl rfl ⟨rfl, rfl⟩) (.cons (op_extract rfl rfl rfl ⟨rfl, rfl⟩) (.cons (op_extract rfl rfl rfl ⟨rfl, rfl⟩) (.nil)))) <| dOps_op rfl rfl (.cons (op_extract rfl rfl rfl ⟨rfl, rfl⟩) (.cons (op_extract rfl rfl rfl ⟨rfl, rfl⟩) (.cons (op_extract rfl rfl rfl ⟨rfl, rfl⟩) (.nil)))) <| dOps_eff rfl rfl rfl rfl (op_store' rfl rfl rfl rfl sz30 rfl rfl (Nat.le_of_ble_eq_true rfl) rfl ⟨rfl, rfl⟩) <| dO rfl rfl rfl (op_assign rfl rfl ⟨rfl, rfl⟩) <| dOps_nil <| mwp_ret ?_
 exact ret_cell_tmp (.inr rfl) Tryz.results17 rfl rfl ta30 rfl (.refl _) (cl_encV _ ((.mk n3 m3 s3 c3 w3))) rfl (.refl _) (.iface0) ⟨rfl, rfl⟩
end Go.Proofs.YtnfcnpdpfgcchaaGreat
end
section
set_option linter.unusedVariables false
set_option linter.unusedSimpArgs false
set_option maxRecDepth 20000
set_option maxHeartbeats 400000
namespace Go.Proofs.YtnfcnpdpfgcchaaGreat
open Go Go.MV
theorem okV_set (A : List Bs) : okV (setV A) := by simp [setV, okV, okVs]
end Go.Proofs.YtnfcnpdpfgcchaaGreat
end
section
set_option linter.unusedVariables false
set_option linter.unusedSimpArgs false
set_option maxRecDepth 20000
set_option maxHeartbeats 400000
namespace Go.Proofs.YtnfcnpdpfgcchaaGreat
open Go Go.MV
def encB (b : Nat) : MV := .int .u8 (b : Int)
def keyM (j : Nat) : Bs := [UInt8.ofNat (97 + j)]
def idxM (f : Nat → Nat) (i : Nat) : List Nat := (List.range i).filter fun j => decide (0 < f j)
def keysM (f : Nat → Nat) (i : Nat) : List Bs := (idxM f i).map keyM
theorem idx_succ (f : Nat → Nat) (i : Nat) : idxM f (i + 1) = idxM f i ++ (if 0 < f i then [i] else []) := by
 unfold idxM
 rw [List.range_succ, List.filter_append]
 congr 1
 by_cases h : 0 < f i <;> simp [h]
theorem keys_succ (f : Nat → Nat) (i : Nat) : keysM f (i + 1) = wX (f i) (keyM i) (keysM f i) := by
 unfold keysM wX
 rw [idx_succ, List.map_append]
 by_cases h : 0 < f i <;> simp [h]
theorem idx_len (f : Nat → Nat) (i : Nat) : (idxM f i).length ≤ i := Nat.le_trans (List.length_filter_le _ _) (by simp)
theorem keys_len (f : Nat → Nat) (i : Nat) : (keysM f i).length ≤ i := by unfold keysM; rw [List.length_map]; exact idx_len f i
theorem key_lt : ∀ j, j < 20 → ∀ i, i < j → Op.bytesLess (keyM i) (keyM j) = true := by decide +kernel
theorem up_keys {f : Nat → Nat} {i : Nat} (h : i ≤ 20) : Up (keysM f i) := by
 unfold Up keysM idxM
 rw [List.pairwise_map]
 refine (List.pairwise_lt_range (n := i)).filter _ |>.imp_of_mem fun {a b} ha hb hab => ?_
 exact key_lt b (by have := List.mem_range.1 (List.mem_filter.1 hb).1; omega) a hab
end Go.Proofs.YtnfcnpdpfgcchaaGreat
end
section
set_option linter.unusedVariables false
set_option linter.unusedSimpArgs false
set_option maxRecDepth 20000
set_option maxHeartbeats 400000
namespace Go.Proofs.YtnfcnpdpfgcchaaGreat
open Go Go.MV
def one3 (t : Bs) : Val := setV [t]
theorem parts_set (d : Nat) (A : List Bs) : partsD (d + 1) (.mk 3 []) (setV A) = A.map one3 := by
  unfold setV
  by_cases h : A = []
  · subst h
    rw [parts_none (by rw [bot_mk, if_neg (by decide)]; rfl)]
    rfl
  · rw [parts_leaf (by rw [bot_mk, if_neg (by decide)]; unfold noV; intro e; injection e with _ _ e; exact h e.symm)]
    rfl
theorem up_one (t : Bs) : Up [t] := by simp [Up]
theorem row_one {t : Bs} (h : t.length ≤ 16) : isRowF [t] = true := row_iff.2 ⟨by simp, up_one t, fun x hx => by simp at hx; subst hx; exact h⟩
theorem leqB_set {A : List Bs} {t : Bs} (ha : isRowF A = true) (ht : t.length ≤ 16) (hl : A.length ≤ 30) : leqB (.mk 3 []) (setV A) (one3 t) = decide (t ∈ A) := by
  unfold leqB one3
  rw [leq_set (row_one ht) ha (up_one t) (row_iff.1 ha).2.1 (by simp; omega)]
  simp
theorem both_snoc {t : Bs} : ∀ {acc : List Bs}, (∀ x ∈ acc, Op.bytesLess x t = true) → bothX acc [t] = acc ++ [t]
  | [], _ => by rw [bothX, bothX]; rfl
  | x :: acc, h => by
    rw [bothX, if_pos (h x (List.mem_cons_self ..)), both_snoc (fun y hy => h y (List.mem_cons_of_mem _ hy))]
    rfl
theorem row_sub {A B : List Bs} (h : isRowF B = true) (hs : A.Sublist B) : isRowF A = true := by
  obtain ⟨h1, h2, h3⟩ := row_iff.1 h
  exact row_iff.2 ⟨Nat.le_trans hs.length_le h1, h2.sublist hs, fun x hx => h3 x (hs.mem hx)⟩
theorem allGo_set : ∀ (l acc : List Bs), isRowF (acc ++ l) = true → allGo (.mk 3 []) (setV acc) (l.map one3) = .ok (setV (acc ++ l))
  | [], acc, _ => by rw [List.append_nil]; rfl
  | t :: l, acc, h => by
    have e : acc ++ t :: l = (acc ++ [t]) ++ l := by simp
    rw [e] at h
    obtain ⟨h1, h2, h3⟩ := row_iff.1 h
    have hb : bothX acc [t] = acc ++ [t] := by
      refine both_snoc fun x hx => ?_
      have h4 := (List.pairwise_append.1 h2).1
      exact (List.pairwise_append.1 h4).2.2 x hx t (by simp)
    have hr : isRowF (acc ++ [t]) = true := row_sub h (List.sublist_append_left _ _)
    have hj : joinVF (.mk 3 []) (setV acc) (one3 t) = .ok (setV (acc ++ [t])) := by
      have := join_set (row_sub hr (List.sublist_append_left _ _)) (row_one (h3 t (by simp)))
      rw [hb, if_neg (by have := (row_iff.1 hr).1; omega)] at this
      exact this
    rw [List.map_cons, allGo, hj, e]
    exact allGo_set l _ h
theorem diff_set {A B : List Bs} (ha : isRowF A = true) (hb : isRowF B = true) (hl : A.length + B.length ≤ 40) (hal : A.length ≤ 30) : diffVF (.mk 3 []) (setV A) (setV B) = .ok (setV (B.filter fun t => !decide (t ∈ A))) := by
  unfold diffVF
  rw [leq_set ha hb (row_iff.1 ha).2.1 (row_iff.1 hb).2.1 hl, parts_set]
  have e : ((B.map one3).filter fun p => !leqB (.mk 3 []) (setV A) p) = (B.filter fun t => !decide (t ∈ A)).map one3 := by
    rw [List.filter_map]
    congr 1
    refine List.filter_congr fun t ht => ?_
    simp only [Function.comp]
    rw [leqB_set ha ((row_iff.1 hb).2.2 t ht) hal]
  show AllF _ _ = _
  rw [e]
  unfold AllF
  rw [if_pos (by decide)]
  have hB : BottomF (.mk 3 []) = setV [] := by unfold BottomF; rw [if_pos (by decide), bot_mk, if_neg (by decide)]; rfl
  rw [hB]
  exact allGo_set _ [] (row_sub hb List.filter_sublist)
theorem num_parts (d : Nat) {n : Nat} (hn : 0 < n) : partsD (d + 1) (.mk 1 []) (.mk (n : Int) 0 [] [] []) = [.mk (n : Int) 0 [] [] []] := by
  rw [parts_leaf (by rw [bot_mk, if_neg (by decide)]; unfold noV; intro e; injection e with e; omega)]
  rfl
theorem map_getD {α β : Type} (l : List α) (d : α) (g : α → β) : (List.range l.length).map (fun i => g (l.getD i d)) = l.map g := by
  refine List.ext_getElem (by simp) fun i h1 h2 => ?_
  simp at h2
  simp [h2]
end Go.Proofs.YtnfcnpdpfgcchaaGreat
end
section
set_option linter.unusedVariables false
set_option linter.unusedSimpArgs false
set_option maxRecDepth 20000
set_option maxHeartbeats 400000
namespace Go.Proofs.YtnfcnpdpfgcchaaGreat
open Go Go.MV
theorem Parts_at {s : Sch} {v : Val} {ps : List Val} (h : partsD 16 s v = ps) (ov : okV v) (hs : isF 16 s = true) (h7 : noK7 16 s = true) (hv : isVF s v = true) (hl : ps.length ≤ 1000000) (S : MS) : MCalls Tryz.prog 10 [encS s, encV v] S fun r σ' => r = .tup [.lst none 5 (encVs ps), .iface0] ∧ σ' = S := by
 subst h
 exact Parts_ok s v ov hs h7 hv hl S
theorem isV_setV {A : List Bs} (h : isRowF A = true) : isVF (.mk 3 []) (setV A) = true := by
 unfold setV
 rw [isVF_mk 3]
 simp [bareF, h, numsK, textsK, clocksK, valuesK, Val.nv, Val.mv, Val.sv, Val.cv, Val.vv]
theorem parts_set_at {A : List Bs} (h : isRowF A = true) (hl : A.length ≤ 1000000) (S : MS) : MCalls Tryz.prog 10 [encS (.mk 3 []), encV (setV A)] S fun r σ' => r = .tup [.lst none 5 (encVs (A.map one3)), .iface0] ∧ σ' = S :=
 Parts_at (parts_set 15 A) (okV_set A) (by decide) (by decide) (isV_setV h) (by simpa using hl) S
theorem diff_set_at {A B : List Bs} {r : Val} (ha : isRowF A = true) (hb : isRowF B = true) (hl : A.length + B.length ≤ 40) (hal : A.length ≤ 30) (hr : diffVF (.mk 3 []) (setV A) (setV B) = .ok r) (S : MS) : MCalls Tryz.prog 17 [encS (.mk 3 []), encV (setV A), encV (setV B)] S fun v σ' => v = .tup [encV r, .iface0] ∧ σ' = S :=
 Diff_ok (.mk 3 []) (setV A) (setV B) (okV_set A) (okV_set B) (by decide) (by decide) (isV_setV hb) _ (leq_set ha hb (row_iff.1 ha).2.1 (row_iff.1 hb).2.1 hl) (by rw [parts_set 15, List.length_map]; omega) r hr S
theorem rSame_true (a : Val) (S : MS) : MCalls Tryz.prog 12 [encV a, encV a] S fun v σ' => v = .bool true ∧ σ' = S := by
 refine (rSame_spec a a S).mono ?_
 rintro v σ' ⟨rfl, rfl⟩
 exact ⟨congrArg MV.bool (decide_eq_true rfl), rfl⟩
theorem kl_ab : isRowF [[97], [98]] = true ∧ isRowF [[97]] = true := by decide +kernel
theorem kl_d : diffVF (.mk 3 []) (setV [[97]]) (setV [[97], [98]]) = .ok (setV [[98]]) := by
 rw [diff_set kl_ab.2 kl_ab.1 (by decide) (by decide)]
 rfl
theorem lawOfP_spec (k : Int) (ins : List Sch) (S : MS) : MCalls Tryz.prog 16 [.int .i64 k, .lst none 2 (encSs ins)] S fun v σ' => v = encS (.mk k ins) ∧ σ' = S := by
 refine mcalls_body Tryz.func16 rfl Tryz.ntmps16 (Nat.le_of_ble_eq_true rfl) ?_
 refine mwp_seq <| qR rfl <| qO rfl <| op_alloc' rfl zm24 rfl rfl <| qN <| mwp_seq <| qR rfl <| qM rfl rfl rfl <| qM rfl rfl rfl <| qO rfl <| op_build rfl Tryz.underlying24 zm24 (.cons fo24_0 sz3 rfl rfl (Nat.le_of_ble_eq_true rfl) (.cons fo24_1 sz22 rfl rfl (Nat.le_of_ble_eq_true rfl) .nil)) (by kernel_rfl) ?_
 refine qO rfl <| op_store' rfl rfl rfl rfl sz24 rfl rfl (Nat.le_of_ble_eq_true rfl) rfl <| qN <| mwp_ret ?_
 exact ret_cell (y := encS (.mk k ins)) (.inr rfl) Tryz.results16 rfl rfl ta24 rfl (.refl _) (cl_encS _ _) ⟨rfl, rfl⟩
theorem knownP_spec (S : MS) : MCalls Tryz.prog 8 [] S fun v σ' => v = .bool true ∧ σ' = S := by
 refine mcalls_body Tryz.func8 rfl Tryz.ntmps8 (Nat.le_of_ble_eq_true rfl) ?_
 refine mwp_seq <| qR rfl <| qA rfl rfl rfl <| qN <| mwp_seq <| qR rfl <| qO rfl <| op_viewTo (y := encS (.mk 3 [])) (op_build rfl Tryz.underlying24 zm24 (.cons fo24_0 sz3 rfl rfl (Nat.le_of_ble_eq_true rfl) .nil) (by kernel_rfl) ⟨rfl, rfl⟩) (.agg (.cons (.refl _) (.cons (.nil 2) .nil))) ?_
 refine qO rfl <| op_alloc' rfl zm24 rfl rfl <| qO rfl <| op_store' rfl rfl rfl rfl sz24 rfl rfl (Nat.le_of_ble_eq_true rfl) rfl <| qN <| mwp_seq <| qR rfl <| qO rfl <| op_buildSlice rfl Tryz.underlying26 el9 rfl rfl (by decide) (by decide) rfl rfl ?_
 refine qO rfl <| op_viewTo (y := encV (setV [[97], [98]])) (op_build rfl Tryz.underlying30 zm30 (.cons fo30_2 sz26 rfl rfl (Nat.le_of_ble_eq_true rfl) .nil) (by kernel_rfl) ⟨rfl, rfl⟩) (.agg (.cons (.refl _) (.cons (.refl _) (.cons (.refl _) (.cons (.nil 1) (.cons (.nil 5) .nil)))))) ?_
 refine qO rfl <| op_alloc' rfl zm30 rfl rfl <| qO rfl <| op_store' rfl rfl rfl rfl sz30 rfl rfl (Nat.le_of_ble_eq_true rfl) rfl <| qN <| mwp_seq <| qR rfl <| qL rfl rfl rfl rfl ta24 rfl <| qL rfl rfl rfl rfl ta30 rfl ?_
 refine wOps_op rfl (op_call rfl rfl rfl co10 ((parts_set_at kl_ab.1 (by decide) _).mono ?_))
 rintro _ _ ⟨rfl, rfl⟩
 refine qM rfl rfl rfl <| qO rfl <| op_extract rfl rfl rfl <| qO rfl <| op_extract rfl rfl rfl <| qA rfl rfl rfl <| qA rfl rfl rfl <| qN <| mwp_seq <| qR rfl <| qL rfl rfl rfl rfl ta24 rfl <| qO rfl <| op_buildSlice rfl Tryz.underlying26 el9 rfl rfl (by decide) (by decide) rfl rfl ?_
 refine qO rfl <| op_viewTo (y := encV (setV [[97]])) (op_build rfl Tryz.underlying30 zm30 (.cons fo30_2 sz26 rfl rfl (Nat.le_of_ble_eq_true rfl) .nil) (by kernel_rfl) ⟨rfl, rfl⟩) (.agg (.cons (.refl _) (.cons (.refl _) (.cons (.refl _) (.cons (.nil 1) (.cons (.nil 5) .nil)))))) ?_
 refine qL rfl rfl rfl rfl ta30 rfl ?_
 refine wOps_op rfl (op_call rfl rfl rfl co17 ((diff_set_at kl_ab.2 kl_ab.1 (by decide) (by decide) kl_d _).mono ?_))
 rintro _ _ ⟨rfl, rfl⟩
 refine qM rfl rfl rfl <| qO rfl <| op_extract rfl rfl rfl <| qO rfl <| op_extract rfl rfl rfl <| qO rfl <| op_alloc' rfl zm30 rfl rfl <| qO rfl <| op_store' rfl rfl rfl rfl sz30 rfl rfl (Nat.le_of_ble_eq_true rfl) rfl <| qA rfl rfl rfl <| qN <| mwp_seq <| qR rfl <| qL rfl rfl rfl rfl ta24 rfl <| qO rfl <| op_viewTo (y := encV (.mk 1 0 [] [] [])) (op_build rfl Tryz.underlying30 zm30 (.cons fo30_0 sz25 rfl rfl (Nat.le_of_ble_eq_true rfl) .nil) (by kernel_rfl) ⟨rfl, rfl⟩) (.agg (.cons (.refl _) (.cons (.refl _) (.cons (.nil 1) (.cons (.nil 1) (.cons (.nil 5) .nil)))))) ?_
 refine wOps_op rfl (op_call rfl rfl rfl co10 ((Parts_bad (.mk 3 []) (.mk 1 0 [] [] []) (okV_num (by decide)) (by decide) _).mono ?_))
 rintro _ _ ⟨rfl, rfl⟩
 refine qM rfl rfl rfl <| qO rfl <| op_extract rfl rfl rfl <| qO rfl <| op_extract rfl rfl rfl <| qA rfl rfl rfl <| qA rfl rfl rfl <| qN <| mwp_seq <| qR rfl <| qL rfl rfl rfl rfl ta24 rfl <| qO rfl <| op_viewTo (y := encV (setV [])) (op_build rfl Tryz.underlying30 zm30 .nil (by kernel_rfl) ⟨rfl, rfl⟩) (.agg (.cons (.refl _) (.cons (.refl _) (.cons (.nil 1) (.cons (.nil 1) (.cons (.nil 5) .nil)))))) ?_
 refine wOps_op rfl (op_call rfl rfl rfl co10 ((parts_set_at (by decide) (by decide) _).mono ?_))
 rintro _ _ ⟨rfl, rfl⟩
 refine qM rfl rfl rfl <| qO rfl <| op_extract rfl rfl rfl <| qO rfl <| op_extract rfl rfl rfl <| qA rfl rfl rfl <| qA rfl rfl rfl <| qN <| mwp_seq ?_
 refine mwp_draw [] [_] mo (by decide) rfl rfl rfl rfl ?_
 refine dO rfl rfl rfl (op_move rfl rfl ⟨rfl, rfl⟩) <| dOps_op rfl rfl (.cons (op_if0 rfl Tryz.underlying34 rfl rfl (.inl ⟨rfl, rfl⟩) ⟨rfl, rfl⟩) .nil) <| dO rfl rfl rfl (op_move rfl rfl ⟨rfl, rfl⟩) <| dO rfl rfl rfl (op_move rfl rfl ⟨rfl, rfl⟩) <| dO rfl rfl rfl (op_len_lst rfl Tryz.underlying28 rfl ⟨rfl, rfl⟩) <| dO rfl rfl rfl (op_cmp rfl rfl rfl rfl ⟨rfl, rfl⟩) <| dO rfl rfl rfl (op_pick rfl rfl rfl ⟨rfl, rfl⟩) <| dO rfl rfl rfl (op_move rfl rfl ⟨rfl, rfl⟩) <| dO rfl rfl rfl (op_move rfl rfl ⟨rfl, rfl⟩) <| dO rfl rfl rfl (op_indexAddr rfl Tryz.underlying28 sz30 (by decide) rfl rfl rfl (show _ = some (encV (setV [[98]])) from rfl) ⟨rfl, rfl⟩) ?_
 refine dO rfl rfl rfl (op_load_sptr rfl rfl ta30 rfl ⟨rfl, rfl⟩) <| dO rfl rfl rfl (op_buildSlice rfl Tryz.underlying26 el9 rfl rfl (by decide) (by decide) rfl rfl ⟨rfl, rfl⟩) ?_
 refine dOps_op rfl rfl (.cons (op_viewTo (y := encV (setV [[98]])) (op_build rfl Tryz.underlying30 zm30 (.cons fo30_2 sz26 rfl rfl (Nat.le_of_ble_eq_true rfl) .nil) (by kernel_rfl) ⟨rfl, rfl⟩) (.agg (.cons (.refl _) (.cons (.refl _) (.cons (.refl _) (.cons (.nil 1) (.cons (.nil 5) .nil)))))) ⟨rfl, rfl⟩) .nil) ?_
 refine dOps_op rfl rfl (.cons (op_call rfl rfl rfl co12 (rSame_true (setV [[98]]) _)) .nil) <| dO rfl rfl rfl (op_pick rfl rfl rfl ⟨rfl, rfl⟩) <| dO rfl rfl rfl (op_move rfl rfl ⟨rfl, rfl⟩) <| dO rfl rfl rfl (op_move rfl rfl ⟨rfl, rfl⟩) <| dOps_op rfl rfl (.cons (op_if0 rfl Tryz.underlying34 rfl rfl (.inl ⟨rfl, rfl⟩) ⟨rfl, rfl⟩) .nil) <| dO rfl rfl rfl (op_pick rfl rfl rfl ⟨rfl, rfl⟩) <| dO rfl rfl rfl (op_move rfl rfl ⟨rfl, rfl⟩) <| dO rfl rfl rfl (op_load' rfl rfl rfl ta30 rfl ⟨rfl, rfl⟩) <| dO rfl rfl rfl (op_move rfl rfl ⟨rfl, rfl⟩) <| dO rfl rfl rfl (op_indexAddr rfl Tryz.underlying28 sz30 (by decide) rfl rfl rfl (show _ = some (encV (setV [[98]])) from rfl) ⟨rfl, rfl⟩) ?_
 refine dO rfl rfl rfl (op_load_sptr rfl rfl ta30 rfl ⟨rfl, rfl⟩) <| dOps_op rfl rfl (.cons (op_call rfl rfl rfl co12 (rSame_true (setV [[98]]) _)) .nil) <| dO rfl rfl rfl (op_pick rfl rfl rfl ⟨rfl, rfl⟩) <| dO rfl rfl rfl (op_move rfl rfl ⟨rfl, rfl⟩) <| dO rfl rfl rfl (op_move rfl rfl ⟨rfl, rfl⟩) <| dO rfl rfl rfl (op_makeInterface rfl rfl Tryz.underlying58 (by simp) ⟨rfl, rfl⟩) ?_
 refine dOps_op rfl rfl (.cons (op_call rfl rfl rfl co20 (errIs_spec 14 _)) .nil) <| dO rfl rfl rfl (op_pick rfl rfl rfl ⟨rfl, rfl⟩) <| dO rfl rfl rfl (op_move rfl rfl ⟨rfl, rfl⟩) <| dO rfl rfl rfl (op_move rfl rfl ⟨rfl, rfl⟩) <| dOps_op rfl rfl (.cons (op_if0 rfl Tryz.underlying34 rfl rfl (.inl ⟨rfl, rfl⟩) ⟨rfl, rfl⟩) .nil) <| dO rfl rfl rfl (op_pick rfl rfl rfl ⟨rfl, rfl⟩) <| dO rfl rfl rfl (op_move rfl rfl ⟨rfl, rfl⟩) <| dO rfl rfl rfl (op_move rfl rfl ⟨rfl, rfl⟩) <| dO rfl rfl rfl (op_len_lst rfl Tryz.underlying28 rfl ⟨rfl, rfl⟩) <| dO rfl rfl rfl (op_cmp rfl rfl rfl rfl ⟨rfl, rfl⟩) <| dO rfl rfl rfl (op_pick rfl rfl rfl ⟨rfl, rfl⟩) <| dO rfl rfl rfl (op_assign rfl rfl ⟨rfl, rfl⟩) <| dOps_nil <| mwp_ret ?_
 exact ret_tmp (.inr rfl) Tryz.results8 rfl (.of_eq (rfl)) (.bool _) ⟨rfl, rfl⟩
end Go.Proofs.YtnfcnpdpfgcchaaGreat
end
section
set_option linter.unusedVariables false
set_option linter.unusedSimpArgs false
set_option maxRecDepth 20000
set_option maxHeartbeats 400000
namespace Go.Proofs.YtnfcnpdpfgcchaaGreat
open Go Go.MV
abbrev sM : Sch := .mk 4 [.mk 3 []]
abbrev sQ : Sch := .mk 5 [sM, .mk 1 []]
def nthK (a : List Nat) (j : Nat) : Nat := a.getD j 0 % 6
def letS (k : Nat) : List Bs := (List.range k).map keyM
def valsK (f : Nat → Nat) (i : Nat) : List Val := (idxM f i).map fun j => setV (letS (f j))
def mapK (f : Nat → Nat) (i : Nat) : Val := .mk 0 0 (keysM f i) [] (valsK f i)
def sumK (f : Nat → Nat) (i : Nat) : Nat := ((List.range i).map f).sum
def rawK (t1 t2 : Nat) (xs : List Bs) (ws : List Val) : MV := .agg [.int .u64 0, .int .u64 0, .lst (some t1) 1 (xs.map encX), .lst0, .lst (some t2) 5 (encVs ws)]
theorem sum_succ (f : Nat → Nat) (i : Nat) : sumK f (i + 1) = sumK f i + f i := by
 unfold sumK
 rw [List.range_succ, List.map_append, List.sum_append]
 simp
theorem sum_le {f : Nat → Nat} (hf : ∀ j, f j < 6) : ∀ i, sumK f i ≤ 5 * i
 | 0 => by simp [sumK]
 | i + 1 => by have := sum_le hf i; have := hf i; rw [sum_succ]; omega
theorem nthK_lt {a : List Nat} : ∀ j, nthK a j < 6 := fun j => by unfold nthK; omega
theorem nthK_at {a : List Nat} {i x : Nat} (h : a[i]? = some x) : x % 6 = nthK a i := by unfold nthK; simp [h]
theorem letS_succ (k : Nat) : letS (k + 1) = letS k ++ [keyM k] := by
 unfold letS
 rw [List.range_succ, List.map_append]; rfl
theorem letS_len (k : Nat) : (letS k).length = k := by simp [letS]
theorem keysK_yes {f : Nat → Nat} {i : Nat} (h : 0 < f i) : keysM f (i + 1) = keysM f i ++ [keyM i] := by
 rw [keys_succ]; unfold wX; rw [if_pos h]
theorem keysK_no {f : Nat → Nat} {i : Nat} (h : f i = 0) : keysM f (i + 1) = keysM f i := by
 rw [keys_succ, h]; rfl
theorem valsK_yes {f : Nat → Nat} {i : Nat} (h : 0 < f i) : valsK f (i + 1) = valsK f i ++ [setV (letS (f i))] := by
 unfold valsK
 rw [idx_succ, List.map_append, if_pos h]; rfl
theorem valsK_no {f : Nat → Nat} {i : Nat} (h : f i = 0) : valsK f (i + 1) = valsK f i := by
 unfold valsK
 rw [idx_succ, List.map_append, h]; simp
theorem valsK_len (f : Nat → Nat) (i : Nat) : (valsK f i).length ≤ i := by unfold valsK; rw [List.length_map]; exact idx_len f i
theorem row_letS {k : Nat} (h : k < 6) : isRowF (letS k) = true := by
 refine row_iff.2 ⟨by rw [letS_len]; omega, ?_, fun x hx => ?_⟩
 ·unfold Up letS
  rw [List.pairwise_map]
  exact (List.pairwise_lt_range (n := k)).imp_of_mem fun {a b} ha hb hab => key_lt b (by have := List.mem_range.1 hb; omega) a hab
 ·obtain ⟨j, _, rfl⟩ := List.mem_map.1 hx
  simp [keyM]
theorem setV_ne {k : Nat} (h : 0 < k) : ¬ bottomF (.mk 3 []) = setV (letS k) := by
 rw [bot_mk, if_neg (by decide)]
 unfold noV setV
 intro e
 injection e with _ _ e
 have := congrArg List.length e
 rw [letS_len] at this
 simp at this
 omega
theorem is_mapK {f : Nat → Nat} {i : Nat} (hf : ∀ j, f j < 6) (h : i ≤ 20) : isVF sM (mapK f i) = true := by
 unfold mapK
 rw [isVF_mk 4]
 have h1 : isRowF (keysM f i) = true := by
  unfold isRowF
  rw [(rises_up _).2 (up_keys h), decide_eq_true (by have := keys_len f i; omega)]
  simp [shortF, keysM, keyM]
 have h2 : (keysM f i).length = (valsK f i).length := by simp [keysM, valsK]
 have h3 : (valsK f i).all (fun x => isVF (.mk 3 []) x && !noneF (.mk 3 []) x) = true := by
  rw [List.all_eq_true]
  intro x hx
  obtain ⟨j, hj, rfl⟩ := List.mem_map.1 hx
  have hp : 0 < f j := by simpa using (List.mem_filter.1 hj).2
  rw [isV_setV (row_letS (hf j))]
  unfold noneF
  rw [decide_eq_false]
  ·rfl
  ·intro e
   have hb : BottomF (.mk 3 []) = bottomF (.mk 3 []) := by unfold BottomF; rw [if_pos (by decide)]
   rw [hb] at e
   first | exact setV_ne hp e | exact setV_ne hp e.symm
 have h4 := valsK_len f i
 simp [bareF, numsK, textsK, clocksK, valuesK, Val.nv, Val.mv, Val.sv, Val.cv, Val.vv, h1, h2, isVL]
 refine ⟨by omega, fun x hx => ?_⟩
 rw [List.all_eq_true] at h3
 simpa using h3 x hx
theorem okV_mapK (f : Nat → Nat) (i : Nat) : okV (mapK f i) := by
 unfold mapK
 refine okV_mk.2 ⟨by omega, by omega, by simp, fun x hx => ?_⟩
 obtain ⟨j, hj, rfl⟩ := List.mem_map.1 hx
 exact okV_set _
def num7 : Val := .mk 7 0 [] [] []
def pairK (m : Val) : Val := .mk 0 0 [] [] [m, num7]
theorem is_pairK {m : Val} (h : isVF sM m = true) : isVF sQ (pairK m) = true := by
 unfold pairK
 rw [isVF_mk 5]
 simp [bareF, numsK, textsK, clocksK, valuesK, Val.nv, Val.mv, Val.sv, Val.cv, Val.vv, isVL, h]
 exact is_num 7
theorem okV_pairK {m : Val} (h : okV m) : okV (pairK m) := okV_mk.2 ⟨by omega, by omega, by simp, fun x hx => by
 simp at hx
 rcases hx with rfl | rfl
 ·exact h
 ·exact okV_num (by decide)⟩
theorem len_sum (G : Nat → List Val) (l : List Nat) : (l.flatMap G).length = (l.map fun j => (G j).length).sum := by
 induction l with
 | nil => rfl
 | cons x l ih => simp [ih]
theorem sum_idx (f : Nat → Nat) (i : Nat) : ((idxM f i).map f).sum = sumK f i := by
 induction i with
 | zero => rfl
 | succ i ih =>
  rw [idx_succ, sum_succ, List.map_append, List.sum_append, ih]
  by_cases h : 0 < f i
  ·simp [h]
  ·simp [h]; omega
theorem len_mapK (d : Nat) (f : Nat → Nat) (N : Nat) : (partsD (d + 2) sM (mapK f N)).length = sumK f N := by
 rw [← sum_idx]
 unfold mapK
 by_cases he : idxM f N = []
 ·have e1 : keysM f N = [] := by unfold keysM; rw [he]; rfl
  have e2 : valsK f N = [] := by unfold valsK; rw [he]; rfl
  rw [e1, e2, he, parts_none (by rw [bot_mk, if_neg (by decide)]; rfl)]
  rfl
 ·have hv : valsK f N ≠ [] := fun e => he (by unfold valsK at e; simpa using e)
  rw [sM, parts_in (by rw [bot_mk, if_neg (by decide)]; unfold noV; intro e; injection e with _ _ _ _ e; exact hv e.symm) hv]
  have hlen : (valsK f N).length = (idxM f N).length := by unfold valsK; simp
  rw [hlen, len_sum, ← map_getD (idxM f N) 0]
  congr 1
  refine List.map_congr_left fun i hi => ?_
  have hi := List.mem_range.1 hi
  have hg : (idxM f N)[i]? = some ((idxM f N).getD i 0) := by simp [hi]
  generalize (idxM f N).getD i 0 = j at hg
  have h1 : (valsK f N).getD i noV = setV (letS (f j)) := by unfold valsK; simp [hg]
  unfold partAt
  rw [if_pos rfl, h1, show ([Sch.mk 3 []] : List Sch).getD 0 nS = .mk 3 [] from rfl, parts_set]
  rw [List.length_map, List.length_map, letS_len]
theorem len_pairK (d : Nat) (f : Nat → Nat) (N : Nat) : (partsD (d + 3) sQ (pairK (mapK f N))).length = sumK f N + 1 := by
 unfold pairK
 rw [sQ, parts_in (by rw [bot_mk, if_pos (by decide)]; intro e; injection e with _ _ _ _ e; simp [bottomL] at e; exact absurd e.2 (by rw [bot_mk, if_neg (by decide)]; unfold noV num7; intro e; injection e with e; omega)) (by simp)]
 rw [len_sum]
 show ([partAt _ 5 _ _ _ _ 0, partAt _ 5 _ _ _ _ 1].map List.length).sum = _
 unfold partAt
 rw [if_neg (by decide), if_pos rfl, if_neg (by decide), if_pos rfl]
 simp only [List.map_cons, List.map_nil, List.length_map, List.sum_cons, List.sum_nil]
 rw [show ([sM, Sch.mk 1 []] : List Sch).getD 0 nS = sM from rfl, show ([sM, Sch.mk 1 []] : List Sch).getD 1 nS = .mk 1 [] from rfl]
 rw [show ([mapK f N, num7] : List Val).getD 0 noV = mapK f N from rfl, show ([mapK f N, num7] : List Val).getD 1 noV = num7 from rfl]
 rw [len_mapK, show num7 = .mk ((7 : Nat) : Int) 0 [] [] [] from rfl, num_parts _ (by decide)]
 rfl
theorem parts_mapK {f : Nat → Nat} {N : Nat} (hf : ∀ j, f j < 6) (hN : N ≤ 20) : ∃ ps : List Val, ps.length = sumK f N ∧ ∀ S : MS, MCalls Tryz.prog 10 [encS sM, encV (mapK f N)] S fun r σ' => r = .tup [.lst none 5 (encVs ps), .iface0] ∧ σ' = S :=
 ⟨_, len_mapK 14 f N, fun S => Parts_ok sM _ (okV_mapK f N) (by decide) (by decide) (is_mapK hf hN) (by rw [len_mapK 14]; have := sum_le hf N; omega) S⟩
theorem parts_pairK {f : Nat → Nat} {N : Nat} (hf : ∀ j, f j < 6) (hN : N ≤ 20) : ∃ ps : List Val, ps.length = sumK f N + 1 ∧ ∀ S : MS, MCalls Tryz.prog 10 [encS sQ, encV (pairK (mapK f N))] S fun r σ' => r = .tup [.lst none 5 (encVs ps), .iface0] ∧ σ' = S :=
 ⟨_, len_pairK 13 f N, fun S => Parts_ok sQ _ (okV_pairK (okV_mapK f N)) (by decide) (by decide) (is_pairK (is_mapK hf hN)) (by rw [len_pairK 13]; have := sum_le hf N; omega) S⟩
theorem rawK_yes (t1 t2 : Nat) (xs : List Bs) (ws : List Val) (s : Bs) (v : Val) : (rawK t1 t2 (xs ++ [s]) (ws ++ [v])).cells = [.int .u64 0, .int .u64 0, .lst (some t1) 1 (xs.map encX ++ [encX s]), .lst0, .lst (some t2) 5 (encVs ws ++ [encV v])] := by
 unfold rawK
 rw [List.map_append, encVs_append]
 rfl
theorem clo_rawK {n t1 t2 : Nat} {xs : List Bs} {ws : List Val} (h1 : t1 < n) (h2 : t2 < n) : (MObj.cells (rawK t1 t2 xs ws).cells).cl n := by
 intro x hx
 simp only [rawK, MV.cells, List.mem_cons, List.not_mem_nil, or_false] at hx
 rcases hx with rfl | rfl | rfl | rfl | rfl
 ·exact .int _ _
 ·exact .int _ _
 ·exact cl_lstT h1 (fun e => cl_encX n e) (fun e => .inr rfl)
 ·exact .lst0
 ·rw [encVs_eq]; exact cl_lstT h2 (fun e => cl_encV n e) (fun e => by cases e; exact .inl rfl)
theorem PartsCounts_spec (a : List Nat) (S : MS) : MCalls Tryz.prog 4 [.lst none 1 (a.map encB)] S fun v σ' => v = .bool true ∧ σ' = S := by
 refine mcalls_body Tryz.func4 rfl Tryz.ntmps4 (Nat.le_of_ble_eq_true rfl) ?_
 refine mwp_seq <| qR rfl <| qA rfl rfl rfl <| qN <| mwp_seq <| mwp_seq <| qR rfl ?_
 refine wOps_op rfl (op_call rfl rfl rfl co8 ((knownP_spec _).mono ?_))
 rintro _ _ ⟨rfl, rfl⟩
 refine qO rfl <| op_not rfl rfl <| qN <| mwp_cond_f rfl (rfl) <| mwp_skip <| mwp_seq <| mwp_seq <| qR rfl <| qM rfl rfl rfl <| qE rfl rfl Tryz.underlying43 rfl <| qC rfl rfl rfl rfl rfl <| qN ?_
 refine mwp_cond_split rfl (fun h18 => ?_) (fun h18 => ?_)
 ·
  refine mwp_seq <| qR rfl <| qA rfl rfl rfl <| qN <| mwp_ret ?_
  exact ret_tmp (.inr rfl) Tryz.results4 rfl (.of_eq (rfl)) (.bool _) ⟨rfl, rfl⟩
 ·
  have hal : a.length ≤ 20 := by rw [List.length_map] at h18; have := of_decide_eq_false h18; omega
  refine mwp_skip <| mwp_seq <| qR rfl <| qO rfl <| op_build rfl Tryz.underlying30 zm30 .nil (by kernel_rfl) ?_
  refine qO rfl <| op_alloc' rfl zm30 rfl rfl <| qO rfl <| op_store' rfl rfl rfl rfl sz30 rfl rfl (Nat.le_of_ble_eq_true rfl) rfl <| qN <| mwp_seq <| qR rfl <| qA rfl rfl rfl <| qN <| mwp_seq <| mwp_seq <| qR rfl <| qA rfl rfl rfl <| qN <| mwp_block <| mwp_cellrowAt 0 2 9 1 rfl rfl (Nat.le_refl _) rfl rfl <| mwp_cellrowAt 0 4 30 5 rfl rfl (Nat.le_refl _) rfl rfl ?_
  refine mwp_loopKJ (α := Nat) [(0, _), (3, _)] (fun i => [(4, .int .i64 ((sumK (nthK a) i : Nat) : Int)), (5, .int .i64 (i : Int))]) (fun i => [.cells (rawK (S.length + 1) (S.length + 2) (keysM (nthK a) i) (valsK (nthK a) i)).cells, .row 9 1 ((keysM (nthK a) i).length), .row 30 5 ((valsK (nthK a) i).length)]) (fun i => i ≤ a.length) (fun i => a.length - i) (0) (Nat.le_refl _) (.keep rfl (.keep rfl (.nil))) (.keep rfl (.keep rfl (.nil))) (by omega) (rfl) ?_
  rintro i hi
  have hkl := keys_len (nthK a) i
  have hvl := valsK_len (nthK a) i
  have hsl := sum_le (f := nthK a) nthK_lt i
  have hfl := nthK_lt (a := a) i
  refine mwp_seq <| mwp_seq <| qR rfl <| qM rfl rfl rfl <| qM rfl rfl rfl <| qE rfl rfl Tryz.underlying43 rfl <| qC rfl rfl rfl rfl rfl <| qN ?_
  refine mwp_cond_split rfl (fun h23 => ?_) (fun h23 => ?_)
  ·
   have hia : i < a.length := by rw [List.length_map] at h23; have := of_decide_eq_true h23; omega
   obtain ⟨x, hs⟩ : ∃ q, a[i]? = some q := ⟨_, List.getElem?_eq_getElem hia⟩
   have hx6 := nthK_at hs
   refine mwp_skip <| mwp_seq <| mwp_block <| mwp_seq <| qR rfl <| qM rfl rfl rfl <| qM rfl rfl rfl <| qO rfl <| op_indexAddr rfl Tryz.underlying43 sz5 (by decide) rfl rfl rfl (get_map hs) ?_
   refine qO rfl <| op_load_sptr rfl rfl ta5 rfl <| qO rfl <| op_rem rfl rfl rfl (by decide) (rem_nat x 6) ?_
   refine qO rfl <| op_convInt rfl Tryz.underlying5 Tryz.underlying3 rfl (i64_nat (show x % 6 < _ by omega)) ?_
   refine qA rfl rfl rfl <| qN <| mwp_seq <| mwp_seq <| qR rfl <| qM rfl rfl rfl <| qC rfl rfl rfl rfl rfl <| qN ?_
   refine mwp_cond_split rfl (fun h33 => ?_) (fun h33 => ?_)
   ·
    have hk0 : nthK a i = 0 := by simp at h33; omega
    refine mwp_exit <| qR rfl <| qM rfl rfl rfl <| qO rfl <| op_arith rfl rfl rfl rfl <| qA rfl rfl rfl <| qN ?_
    refine ⟨i + 1, [], by omega, by omega, by rw [keysK_no hk0, valsK_no hk0, List.append_nil], .new (clo_rawK (by simp) (by simp)) (.new trivial (.new trivial .nil)), (.old rfl rfl (.old rfl rfl (.nil))), (.new' rfl (by rw [sum_succ, hk0]; rfl) (.int _ _) (.new' rfl (int_succ (show i < a.length by omega) (by simp only [maxLen]; omega)) (.int _ _) (.nil)))⟩
   ·
    have hkp : 0 < nthK a i := by simp at h33; omega
    refine mwp_skip <| mwp_seq <| qR rfl <| qO rfl <| op_build rfl Tryz.underlying30 zm30 .nil (by kernel_rfl) ?_
    refine qO rfl <| op_alloc' rfl zm30 rfl rfl <| qO rfl <| op_store' rfl rfl rfl rfl sz30 rfl rfl (Nat.le_of_ble_eq_true rfl) rfl <| qN <| mwp_seq <| mwp_seq <| qR rfl <| qA rfl rfl rfl <| qN <| mwp_block <| mwp_cellrowAt 3 2 9 1 rfl rfl (Nat.le_refl _) rfl rfl ?_
    refine mwp_loopK (α := Nat) [(0, _), (3, _), (4, _), (5, _), (6, _), (7, _)] (fun j => [(8, .int .i64 (j : Int))]) (fun j => [.cells (rawK (S.length + 1) (S.length + 2) (keysM (nthK a) i) (valsK (nthK a) i)).cells, .row 9 1 ((keysM (nthK a) i).length), .row 30 5 ((valsK (nthK a) i).length), .cells [.int .u64 0, .int .u64 0, .lst (some (S.length + 4)) 1 ((letS j).map encX), .lst0, .lst0], .row 9 1 (letS j).length]) (fun j => j ≤ nthK a i) (fun j => nthK a i - j) (0) (.keep rfl (.keep rfl (.keep rfl (.keep rfl (.keep rfl (.keep rfl (.nil))))))) (.keep rfl (.nil)) (by omega) (rfl) ?_
    rintro j hj
    have hjl := letS_len j
    refine mwp_seq <| mwp_seq <| qR rfl <| qM rfl rfl rfl <| qM rfl rfl rfl <| qC rfl rfl rfl rfl rfl <| qN ?_
    refine mwp_cond_split rfl (fun h37 => ?_) (fun h37 => ?_)
    ·
     have hjk : j < nthK a i := by have := of_decide_eq_true h37; omega
     refine mwp_skip <| mwp_seq <| mwp_block <| qR rfl <| qF rfl rfl rfl fo30_2 <| qL rfl rfl rfl rfl ta26 rfl <| qM rfl rfl rfl <| qO rfl <| op_arith rfl rfl rfl (wadd (a := 97) (b := j) rfl (by omega)) ?_
     refine qO rfl <| op_convInt rfl Tryz.underlying3 Tryz.underlying5 rfl (u8_cv (show 97 + j < 256 by omega)) ?_
     refine qO rfl <| op_buildSlice rfl Tryz.underlying43 el5 rfl rfl (by decide) (by decide) rfl rfl ?_
     refine qO rfl <| op_conv_bytes (l := keyM j) rfl Tryz.underlying43 Tryz.underlying5 Tryz.underlying9 rfl (rfl) <| qO rfl <| op_buildSlice rfl Tryz.underlying26 el9 rfl rfl (by decide) (by decide) rfl rfl ?_
     refine qO rfl <| op_append' rfl Tryz.underlying26 el9 rfl rfl rfl (by simp) (by first | omega | (simp only [List.length_map, encVs_length, List.length_cons, List.length_nil]; omega)) (by first | omega | (simp only [List.length_map, encVs_length, List.length_cons, List.length_nil]; omega)) rfl ?_
     refine qF rfl rfl rfl fo30_2 <| qO rfl <| op_store' rfl rfl rfl rfl sz26 rfl rfl (Nat.le_of_ble_eq_true rfl) rfl <| qN <| qR rfl <| qM rfl rfl rfl <| qO rfl <| op_arith rfl rfl rfl rfl <| qA rfl rfl rfl <| qN ?_
     refine ⟨j + 1, by omega, by omega, by rw [letS_succ, List.map_append, List.length_append]; rfl, (.keep rfl (.keep rfl (.keep rfl (.keep rfl (.keep rfl (.keep rfl (.nil))))))), (.eq rfl (int_succ (show j < 6 by omega) (by decide)) (.nil))⟩
    ·
     have hjk : j = nthK a i := by have := of_decide_eq_false h37; omega
     subst hjk
     refine mwp_exit <| mwp_seq ?_
     refine mwp_draw [8, 13, 15, 17] [_, S ++ [.cells [.int .u64 0, .int .u64 0, .lst (some (S.length + 1)) 1 ((keysM (nthK a) i).map encX), .lst0, .lst (some (S.length + 2)) 5 (encVs (valsK (nthK a) i))], .row 9 1 ((keysM (nthK a) i).length + 1), .row 30 5 ((valsK (nthK a) i).length), .cells [.int .u64 0, .int .u64 0, .lst (some (S.length + 4)) 1 ((letS (nthK a i)).map encX), .lst0, .lst0], .row 9 1 (letS (nthK a i)).length], S ++ [.cells [.int .u64 0, .int .u64 0, .lst (some (S.length + 1)) 1 ((keysM (nthK a) i).map encX), .lst0, .lst (some (S.length + 2)) 5 (encVs (valsK (nthK a) i))], .row 9 1 ((keysM (nthK a) i).length + 1), .row 30 5 ((valsK (nthK a) i).length + 1), .cells [.int .u64 0, .int .u64 0, .lst (some (S.length + 4)) 1 ((letS (nthK a i)).map encX), .lst0, .lst0], .row 9 1 (letS (nthK a i)).length], S ++ [.cells [.int .u64 0, .int .u64 0, .lst (some (S.length + 1)) 1 ((keysM (nthK a) i).map encX ++ [encX (keyM i)]), .lst0, .lst (some (S.length + 2)) 5 (encVs (valsK (nthK a) i))], .row 9 1 ((keysM (nthK a) i).length + 1), .row 30 5 ((valsK (nthK a) i).length + 1), .cells [.int .u64 0, .int .u64 0, .lst (some (S.length + 4)) 1 ((letS (nthK a i)).map encX), .lst0, .lst0], .row 9 1 (letS (nthK a i)).length], S ++ [.cells [.int .u64 0, .int .u64 0, .lst (some (S.length + 1)) 1 ((keysM (nthK a) i).map encX ++ [encX (keyM i)]), .lst0, .lst (some (S.length + 2)) 5 (encVs (valsK (nthK a) i) ++ [encV (setV (letS (nthK a i)))])], .row 9 1 ((keysM (nthK a) i).length + 1), .row 30 5 ((valsK (nthK a) i).length + 1), .cells [.int .u64 0, .int .u64 0, .lst (some (S.length + 4)) 1 ((letS (nthK a i)).map encX), .lst0, .lst0], .row 9 1 (letS (nthK a i)).length]] mo (by decide) rfl rfl rfl rfl ?_
     refine dOps_op rfl rfl (.cons (op_fieldAddr_ref rfl rfl fo30_2 ⟨rfl, rfl⟩) (.cons (op_fieldAddr_ref rfl rfl fo30_2 ⟨rfl, rfl⟩) (.cons (op_fieldAddr_ref rfl rfl fo30_2 ⟨rfl, rfl⟩) (.nil)))) <| dO rfl rfl rfl (op_load' rfl rfl rfl ta26 rfl ⟨rfl, rfl⟩) <| dOps_op rfl rfl (.cons (op_move rfl rfl ⟨rfl, rfl⟩) (.cons (op_move rfl rfl ⟨rfl, rfl⟩) (.cons (op_move rfl rfl ⟨rfl, rfl⟩) (.nil)))) <| dOps_op rfl rfl (.cons (op_arith rfl rfl rfl (wadd (a := 97) (b := i) rfl (by omega)) ⟨rfl, rfl⟩) (.cons (op_arith rfl rfl rfl (wadd (a := 97) (b := i) rfl (by omega)) ⟨rfl, rfl⟩) (.cons (op_arith rfl rfl rfl (wadd (a := 97) (b := i) rfl (by omega)) ⟨rfl, rfl⟩) (.nil)))) ?_
     refine dOps_op rfl rfl (.cons (op_convInt rfl Tryz.underlying3 Tryz.underlying5 rfl (u8_cv (show 97 + i < 256 by omega)) ⟨rfl, rfl⟩) (.cons (op_convInt rfl Tryz.underlying3 Tryz.underlying5 rfl (u8_cv (show 97 + i < 256 by omega)) ⟨rfl, rfl⟩) (.cons (op_convInt rfl Tryz.underlying3 Tryz.underlying5 rfl (u8_cv (show 97 + i < 256 by omega)) ⟨rfl, rfl⟩) (.nil)))) ?_
     refine dOps_op rfl rfl (.cons (op_buildSlice rfl Tryz.underlying43 el5 rfl rfl (by decide) (by decide) rfl rfl ⟨rfl, rfl⟩) (.cons (op_buildSlice rfl Tryz.underlying43 el5 rfl rfl (by decide) (by decide) rfl rfl ⟨rfl, rfl⟩) (.cons (op_buildSlice rfl Tryz.underlying43 el5 rfl rfl (by decide) (by decide) rfl rfl ⟨rfl, rfl⟩) (.nil)))) ?_
     refine dOps_op rfl rfl (.cons (op_conv_bytes (l := keyM i) rfl Tryz.underlying43 Tryz.underlying5 Tryz.underlying9 rfl (rfl) ⟨rfl, rfl⟩) (.cons (op_conv_bytes (l := keyM i) rfl Tryz.underlying43 Tryz.underlying5 Tryz.underlying9 rfl (rfl) ⟨rfl, rfl⟩) (.cons (op_conv_bytes (l := keyM i) rfl Tryz.underlying43 Tryz.underlying5 Tryz.underlying9 rfl (rfl) ⟨rfl, rfl⟩) (.nil)))) <| dO rfl rfl rfl (op_buildSlice rfl Tryz.underlying26 el9 rfl rfl (by decide) (by decide) rfl rfl ⟨rfl, rfl⟩) ?_
     refine dOps_eff rfl rfl rfl rfl (op_append' rfl Tryz.underlying26 el9 rfl rfl rfl (by simp) (by first | omega | (simp only [List.length_map, encVs_length, List.length_cons, List.length_nil]; omega)) (by first | omega | (simp only [List.length_map, encVs_length, List.length_cons, List.length_nil]; omega)) rfl ⟨rfl, rfl⟩) ?_
     refine dOps_op rfl rfl (.cons (op_fieldAddr_ref rfl rfl fo30_4 ⟨rfl, rfl⟩) (.cons (op_fieldAddr_ref rfl rfl fo30_4 ⟨rfl, rfl⟩) (.cons (op_fieldAddr_ref rfl rfl fo30_4 ⟨rfl, rfl⟩) (.nil)))) <| dOps_op rfl rfl (.cons (op_load' rfl rfl rfl ta28 rfl ⟨rfl, rfl⟩) (.cons (op_load' rfl rfl rfl ta28 rfl ⟨rfl, rfl⟩) (.nil))) <| dOps_op rfl rfl (.cons (op_viewTo (y := encV (setV (letS (nthK a i)))) (op_load' rfl rfl rfl ta30 rfl ⟨rfl, rfl⟩) (.agg (.cons (.refl _) (.cons (.refl _) (.cons (.view _ _ _) (.cons (.nil 1) (.cons (.nil 5) .nil)))))) ⟨rfl, rfl⟩) (.cons (op_viewTo (y := encV (setV (letS (nthK a i)))) (op_load' rfl rfl rfl ta30 rfl ⟨rfl, rfl⟩) (.agg (.cons (.refl _) (.cons (.refl _) (.cons (.view _ _ _) (.cons (.nil 1) (.cons (.nil 5) .nil)))))) ⟨rfl, rfl⟩) (.cons (op_viewTo (y := encV (setV (letS (nthK a i)))) (op_load' rfl rfl rfl ta30 rfl ⟨rfl, rfl⟩) (.agg (.cons (.refl _) (.cons (.refl _) (.cons (.view _ _ _) (.cons (.nil 1) (.cons (.nil 5) .nil)))))) ⟨rfl, rfl⟩) (.cons (op_viewTo (y := encV (setV (letS (nthK a i)))) (op_load' rfl rfl rfl ta30 rfl ⟨rfl, rfl⟩) (.agg (.cons (.refl _) (.cons (.refl _) (.cons (.view _ _ _) (.cons (.nil 1) (.cons (.nil 5) .nil)))))) ⟨rfl, rfl⟩) (.nil))))) <| dOps_op rfl rfl (.cons (op_buildSlice rfl Tryz.underlying28 el30 rfl rfl (by decide) (by decide) rfl rfl ⟨rfl, rfl⟩) (.cons (op_buildSlice rfl Tryz.underlying28 el30 rfl rfl (by decide) (by decide) rfl rfl ⟨rfl, rfl⟩) (.nil))) ?_
     refine dOps_eff rfl rfl rfl rfl (op_append' rfl Tryz.underlying28 el30 rfl rfl rfl (encVs_length _) (by first | omega | (simp only [List.length_map, encVs_length, List.length_cons, List.length_nil]; omega)) (by first | omega | (simp only [List.length_map, encVs_length, List.length_cons, List.length_nil]; omega)) rfl ⟨rfl, rfl⟩) ?_
     refine dOps_op rfl rfl (.cons (op_fieldAddr_ref rfl rfl fo30_2 ⟨rfl, rfl⟩) (.cons (op_fieldAddr_ref rfl rfl fo30_2 ⟨rfl, rfl⟩) (.nil))) <| dOps_eff rfl rfl rfl rfl (op_store' rfl rfl rfl rfl sz26 rfl rfl (Nat.le_of_ble_eq_true rfl) rfl ⟨rfl, rfl⟩) <| dO rfl rfl rfl (op_fieldAddr_ref rfl rfl fo30_4 ⟨rfl, rfl⟩) <| dOps_eff rfl rfl rfl rfl (op_store' rfl rfl rfl rfl sz28 rfl rfl (Nat.le_of_ble_eq_true rfl) rfl ⟨rfl, rfl⟩) <| dOps_nil <| qR rfl <| qM rfl rfl rfl <| qM rfl rfl rfl <| qO rfl <| op_arith rfl rfl rfl (wadd (a := sumK (nthK a) i) (b := x % 6) rfl (by omega)) ?_
     refine qA rfl rfl rfl <| qN <| qR rfl <| qM rfl rfl rfl <| qO rfl <| op_arith rfl rfl rfl rfl <| qA rfl rfl rfl <| qN ?_
     refine ⟨i + 1, _, by omega, by omega, by rw [keysK_yes hkp, valsK_yes hkp, rawK_yes, List.length_append, List.length_append]; rfl, .new (clo_rawK (by simp) (by simp)) (.new trivial (.new trivial .nil)), (.old rfl rfl (.old rfl rfl (.nil))), (.new' rfl (by rw [sum_succ, hx6]) (.int _ _) (.new' rfl (int_succ (show i < a.length by omega) (by simp only [maxLen]; omega)) (.int _ _) (.nil)))⟩
  ·
   have hia : i = a.length := by rw [List.length_map] at h23; have := of_decide_eq_false h23; omega
   subst hia
   obtain ⟨ps, hpl, hps⟩ := parts_mapK (f := nthK a) nthK_lt hal
   obtain ⟨qs, hql, hqs⟩ := parts_pairK (f := nthK a) nthK_lt hal
   refine mwp_exit <| mwp_seq <| qR rfl ?_
   refine wOps_op rfl (op_call rfl rfl rfl co16 (((lawOfP_spec 3 [] _).sub (.cons (.refl _) (.cons (.nil 2) .nil))).mono ?_))
   rintro _ _ ⟨rfl, rfl⟩
   refine qO rfl <| op_buildSlice rfl Tryz.underlying22 el24 rfl rfl (by decide) (by decide) rfl rfl ?_
   refine wOps_op rfl (op_call rfl rfl rfl co16 ((lawOfP_spec 4 [.mk 3 []] _).mono ?_))
   rintro _ _ ⟨rfl, rfl⟩
   refine qO rfl <| op_alloc' rfl zm24 rfl rfl <| qO rfl <| op_store' rfl rfl rfl rfl sz24 rfl rfl (Nat.le_of_ble_eq_true rfl) rfl <| qN <| mwp_seq <| qR rfl <| qL rfl rfl rfl rfl ta24 rfl <| qO rfl <| op_viewTo (y := encV (mapK (nthK a) a.length)) (op_load' rfl rfl rfl ta30 rfl ⟨rfl, rfl⟩) (.agg (.cons (.refl _) (.cons (.refl _) (.cons (.view _ _ _) (.cons (.nil 1) (.cons (.view _ _ _) .nil)))))) ?_
   refine wOps_op rfl (op_call rfl rfl rfl co10 ((hps _).mono ?_))
   rintro _ _ ⟨rfl, rfl⟩
   refine qM rfl rfl rfl <| qO rfl <| op_extract rfl rfl rfl <| qO rfl <| op_extract rfl rfl rfl <| qA rfl rfl rfl <| qA rfl rfl rfl <| qN <| mwp_seq ?_
   refine mwp_draw [] [_] mo (by decide) rfl rfl rfl rfl ?_
   refine dO rfl rfl rfl (op_load' rfl rfl rfl ta24 rfl ⟨rfl, rfl⟩) <| dOps_op rfl rfl (.cons (op_call rfl rfl rfl co16 ((lawOfP_spec 1 [] _).sub (.cons (.refl _) (.cons (.nil 2) .nil)))) .nil) <| dO rfl rfl rfl (op_buildSlice rfl Tryz.underlying22 el24 rfl rfl (by decide) (by decide) rfl rfl ⟨rfl, rfl⟩) ?_
   refine dOps_op rfl rfl (.cons (op_call rfl rfl rfl co16 (lawOfP_spec 5 [sM, .mk 1 []] _)) .nil) <| dOps_op rfl rfl (.cons (op_viewTo (y := encV (mapK (nthK a) a.length)) (op_load' rfl rfl rfl ta30 rfl ⟨rfl, rfl⟩) (.agg (.cons (.refl _) (.cons (.refl _) (.cons (.view _ _ _) (.cons (.nil 1) (.cons (.view _ _ _) .nil)))))) ⟨rfl, rfl⟩) .nil) <| dOps_op rfl rfl (.cons (op_viewTo (y := encV num7) (op_build rfl Tryz.underlying30 zm30 (.cons fo30_0 sz25 rfl rfl (Nat.le_of_ble_eq_true rfl) .nil) (by kernel_rfl) ⟨rfl, rfl⟩) (.agg (.cons (.refl _) (.cons (.refl _) (.cons (.nil 1) (.cons (.nil 1) (.cons (.nil 5) .nil)))))) ⟨rfl, rfl⟩) .nil) ?_
   refine dO rfl rfl rfl (op_buildSlice rfl Tryz.underlying28 el30 rfl rfl (by decide) (by decide) rfl rfl ⟨rfl, rfl⟩) ?_
   refine dOps_op rfl rfl (.cons (op_viewTo (y := encV (pairK (mapK (nthK a) a.length))) (op_build rfl Tryz.underlying30 zm30 (.cons fo30_4 sz28 rfl rfl (Nat.le_of_ble_eq_true rfl) .nil) (by kernel_rfl) ⟨rfl, rfl⟩) (.agg (.cons (.refl _) (.cons (.refl _) (.cons (.nil 1) (.cons (.nil 1) (.cons (.refl _) .nil)))))) ⟨rfl, rfl⟩) .nil) ?_
   refine dOps_op rfl rfl (.cons (op_call rfl rfl rfl co10 (hqs _)) .nil) <| dO rfl rfl rfl (op_move rfl rfl ⟨rfl, rfl⟩) <| dO rfl rfl rfl (op_extract rfl rfl rfl ⟨rfl, rfl⟩) <| dO rfl rfl rfl (op_extract rfl rfl rfl ⟨rfl, rfl⟩) <| dO rfl rfl rfl (op_assign rfl rfl ⟨rfl, rfl⟩) <| dO rfl rfl rfl (op_assign rfl rfl ⟨rfl, rfl⟩) <| dOps_nil <| mwp_seq <| qR rfl <| qM rfl rfl rfl <| qO rfl <| op_if0 rfl Tryz.underlying34 rfl rfl (.inl ⟨rfl, rfl⟩) <| qM rfl rfl rfl <| qM rfl rfl rfl <| qE rfl rfl Tryz.underlying28 rfl <| qM rfl rfl rfl <| qC rfl rfl rfl rfl (eqlI (by rw [encVs_length, hpl])) ?_
   refine qP rfl rfl rfl rfl <| qM rfl rfl rfl <| qM rfl rfl rfl <| qO rfl <| op_if0 rfl Tryz.underlying34 rfl rfl (.inl ⟨rfl, rfl⟩) <| qP rfl rfl rfl rfl <| qM rfl rfl rfl <| qM rfl rfl rfl <| qE rfl rfl Tryz.underlying28 rfl <| qM rfl rfl rfl <| qO rfl <| op_arith rfl rfl rfl (wadd (a := sumK (nthK a) a.length) (b := 1) rfl (by omega)) ?_
   refine qC rfl rfl rfl rfl (eqlI (by rw [encVs_length, hql])) ?_
   refine qP rfl rfl rfl rfl <| qA rfl rfl rfl <| qN <| mwp_ret ?_
   exact ret_tmp (.inr rfl) Tryz.results4 rfl (.of_eq (rfl)) (.bool _) ⟨rfl, rfl⟩
end Go.Proofs.YtnfcnpdpfgcchaaGreat
end
