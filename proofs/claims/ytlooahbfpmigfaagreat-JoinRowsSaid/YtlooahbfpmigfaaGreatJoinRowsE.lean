/-
  Texts on which the proof of JoinRows leans: part 5.
-/
import Derived.Test.YtlooahbfpmigfaaGreatJoinRowsD
import Derived.Laws.MakeOwn
import Derived.WalkKit
import Derived.LaidEql
import Derived.RowKitTokens
import Derived.Stop.Asserts
section
set_option linter.unusedVariables false
set_option linter.unusedSimpArgs false
set_option maxRecDepth 20000
set_option maxHeartbeats 400000
namespace Go.Proofs.YtlooahbfpmigfaaGreat
open Go Go.MV
theorem fn_own {f : FuncId} {S : MS} (A : MS) : MV.fn (.func f) [] [.ref (S ++ A).length 0, .ref ((S ++ A).length + 1) 0, .ref ((S ++ A).length + 2) 0] = MV.fn (.func f) [] [.ref (S.length + A.length) 0, .ref (S.length + (A.length + 1)) 0, .ref (S.length + (A.length + 2)) 0] := by
 rw [List.length_append]; rfl
theorem get_end {A A' R : MS} {c : MObj} (h : A'.length = A.length) : (A' ++ (R ++ [c]))[(A ++ R).length]? = some c := by
 rw [List.length_append, ← h, getElem?_own]
 exact get_mid (B := [])
theorem set_end {A R : MS} {c d : MObj} : (A ++ (R ++ [c])).set (A ++ R).length d = A ++ (R ++ [d]) := by
 rw [List.length_append, set_own]
 congr 1
 exact set_mid (B := [])
theorem get_rtz {A A' L' : MS} {x y c : MObj} (h : A'.length = A.length) (Z : MS) : (A' ++ (((y :: L') ++ [c]) ++ Z))[(A ++ x :: L').length]? = some c := by
 rw [List.length_append, ← h, getElem?_own]
 exact get_app (get_mid (B := []))
theorem get_rt0 {A A' L' : MS} {x y c : MObj} (h : A'.length = A.length) : (A' ++ ((y :: L') ++ [c]))[(A ++ x :: L').length]? = some c := by
 have := get_rtz (x := x) (y := y) (c := c) (L' := L') h []
 rwa [List.append_nil] at this
section
variable {κ : Type}
def accE (f : Val → Val → Option Val) (l : List (Ent κ)) (j : Nat) : List (κ × Val) := (goE f (l.take j)).getD []
def okE (f : Val → Val → Option Val) (l : List (Ent κ)) (j : Nat) : Bool := ((l[j]?).bind (ofE f)).isSome
theorem acc_step {f : Val → Val → Option Val} {l : List (Ent κ)} {j : Nat} {e : Ent κ} {v : Val} (h : goE f (l.take j) = some (accE f l j)) (he : l[j]? = some e) (hv : ofE f e = some v) : goE f (l.take (j + 1)) = some (accE f l j ++ [(e.1, v)]) := by
 rw [List.take_add_one, he, Option.toList_some]
 exact goE_snoc h hv
theorem acc_next {f : Val → Val → Option Val} {l : List (Ent κ)} {j : Nat} {e : Ent κ} {v : Val} (h : goE f (l.take j) = some (accE f l j)) (he : l[j]? = some e) (hv : ofE f e = some v) : accE f l (j + 1) = accE f l j ++ [(e.1, v)] := by
 rw [accE, acc_step h he hv]; rfl
theorem acc_all {f : Val → Val → Option Val} {l : List (Ent κ)} : ∀ {j : Nat}, j ≤ l.length → (∀ i, i < j → okE f l i = true) → goE f (l.take j) = some (accE f l j)
 | 0, _, _ => by simp [accE, goE]
 | j + 1, hj, h => by
  have ih := acc_all (j := j) (by omega) fun i hi => h i (by omega)
  have hk := h j (by omega)
  obtain ⟨e, he⟩ : ∃ e, l[j]? = some e := ⟨_, List.getElem?_eq_getElem (by omega)⟩
  rw [okE, he] at hk
  obtain ⟨v, hv⟩ := Option.isSome_iff_exists.1 hk
  rw [acc_step ih he hv, acc_next ih he hv]
end
theorem clo_V (n : Nat) (v : Val) : (MObj.cells (encV v).cells).cl n := by
 have h := cl_encV n v
 cases v with
 | mk a b c d e => cases h with
  | agg _ h => exact h
theorem clo_S (n : Nat) (s : Sch) : (MObj.cells (encS s).cells).cl n := by
 have h := cl_encS n s
 cases s with
 | mk a b => cases h with
  | agg _ h => exact h
theorem clo_1 {n : Nat} {x : MV} (h : Cl n x) : (MObj.cells [x]).cl n := fun y hy => by
 rw [List.mem_singleton] at hy; subst hy; exact h
theorem clo_Z (n : Nat) : (MObj.cells [.int .u64 0, .int .u64 0, .lst0, .lst0, .lst0]).cl n := fun y hy => by
 simp only [List.mem_cons, List.not_mem_nil, or_false] at hy
 rcases hy with rfl | rfl | rfl | rfl | rfl
 ·exact .int _ _
 ·exact .int _ _
 ·exact .lst0
 ·exact .lst0
 ·exact .lst0
theorem clo_outX {acc : List (Bs × Val)} {t u n : Nat} (ht : t < n) (hu : u < n) : (MObj.cells [.int .u64 0, .int .u64 0, .lst (some t) 1 (acc.map fun e => encX e.1), .lst0, .lst (some u) 5 (acc.map fun e => encV e.2)]).cl n := by
 intro x hx
 simp only [List.mem_cons, List.not_mem_nil, or_false] at hx
 rcases hx with rfl | rfl | rfl | rfl | rfl
 ·exact .int _ _
 ·exact .int _ _
 ·exact cl_lstT ht (fun e : Bs × Val => cl_encX n e.1) (fun e => .inr rfl)
 ·exact .lst0
 ·exact cl_lstT hu (fun e : Bs × Val => cl_encV n e.2) (fun e => by cases e.2; exact .inl rfl)
theorem one_encEX (e : Ent Bs) : (encE encX e).cells.all MV.one = true := by obtain ⟨k, v, o⟩ := e; cases o <;> rfl
theorem clo_bx (n : Nat) (l : List (REnt Bs)) : (MObj.cells [.lst none 3 (l.map (encR encX))]).cl n := clo_1 (cl_lst (cl_encR (fun n k => cl_encX n k) _) (fun _ => .inl rfl))
theorem okE_some {κ : Type} {f : Val → Val → Option Val} {l : List (Ent κ)} {j : Nat} {e : Ent κ} {v : Val} (h : l[j]? = some e) (hf : ofE f e = some v) : okE f l j = true := by rw [okE, h]; simp [hf]
theorem okE_none {κ : Type} {f : Val → Val → Option Val} {l : List (Ent κ)} {j : Nat} {e : Ent κ} (h : l[j]? = some e) (hf : ofE f e = none) : okE f l j = false := by rw [okE, h]; simp [hf]
theorem bad_none {κ : Type} {f : Val → Val → Option Val} {l : List (Ent κ)} {j : Nat} {e : Ent κ} (h : l[j]? = some e) (hf : okE f l j = false) : goE f l = none := by
 refine goE_bad (List.mem_of_getElem? h) ?_
 rw [okE, h] at hf
 simpa using hf
theorem maps_spec (k k1 : Int) (i1 rest : List Sch) (f : Val → Val → Option Val) (n1 m1 : Int) (s1 : List Bs) (c1 : List (List Tk)) (w1 : List Val) (n2 m2 : Int) (s2 : List Bs) (c2 : List (List Tk)) (w2 : List Val) (hl1 : s1.length = w1.length) (hl2 : s2.length = w2.length) (h1 : s1.length ≤ 40) (h2 : s2.length ≤ 40) (hb : ∀ x ∈ w1, ∀ y ∈ w2, ∀ S : MS, MCalls Tryz.prog 68 [encS (.mk k1 i1), encV x, encV y] S fun v σ' => v = encO (f x y) ∧ σ' = S) (S : MS) : MCalls Tryz.prog 98 [encS (.mk k (.mk k1 i1 :: rest)), encV (.mk n1 m1 s1 c1 w1), encV (.mk n2 m2 s2 c2 w2)] S fun v σ' => v = encO (mapsF f (.mk n1 m1 s1 c1 w1) (.mk n2 m2 s2 c2 w2)) ∧ σ' = S := by
 refine mcalls_body Tryz.func98 rfl Tryz.ntmps98 (Nat.le_of_ble_eq_true rfl) ?_
 generalize hl : mergedX (.mk n1 m1 s1 c1 w1) (.mk n2 m2 s2 c2 w2) = l
 have hll : l.length ≤ 80 := by rw [← hl]; have := mergeE_len cmpX (s1.zip w1) (s2.zip w2); simp only [mergedX, entX, Val.sv, Val.vv, List.length_zip] at *; omega
 have hmem : ∀ e ∈ l, ∀ y, e.2.2 = some y → e.2.1 ∈ w1 ∧ y ∈ w2 := fun e h => by
  obtain ⟨p, q⟩ := mergeE_mem _ _ _ e (by rw [← hl] at h; exact h)
  intro y hy
  obtain ⟨q1, k, q2⟩ := q y hy
  exact ⟨zip_mem2 q1, zip_mem2 q2⟩
 refine mwp_seq <| qR rfl <| qB rfl rfl rfl rfl rfl <| qB rfl rfl rfl rfl rfl <| qB rfl rfl rfl rfl rfl <| qO rfl <| op_alloc' rfl zm29 rfl rfl <| qO rfl <| op_alloc' rfl zm32 rfl rfl <| qN <| mwp_seq <| qR rfl <| qO rfl <| op_alloc' rfl zm29 rfl rfl <| qN <| mwp_seq <| mwp_seq ?_
 refine mwp_draw [10] [_, S ++ [.cells (encS (.mk k (.mk k1 i1 :: rest))).cells, .cells (encV (.mk n1 m1 s1 c1 w1)).cells, .cells (encV (.mk n2 m2 s2 c2 w2)).cells, .cells [.int .u64 0, .int .u64 0, .lst0, .lst0, .lst0], .cells [.iface0], .cells [.int .u64 0, .int .u64 0, .lst0, .lst0, .lst0], .cells [.lst none 3 ((s1.zip w1).map (encR encX))], .cells [.lst none 3 ((s2.zip w2).map (encR encX))], .cells [.fn (.func 132) [] []]]] mo (by decide) rfl rfl rfl rfl ?_
 refine dOps_op rfl rfl (.cons (op_fieldAddr_ref rfl rfl fo29_2 ⟨rfl, rfl⟩) (.cons (op_fieldAddr_ref rfl rfl fo29_2 ⟨rfl, rfl⟩) (.nil))) <| dOps_op rfl rfl (.cons (op_load' rfl rfl rfl ta25 rfl ⟨rfl, rfl⟩) (.cons (op_load' rfl rfl rfl ta25 rfl ⟨rfl, rfl⟩) (.nil))) <| dOps_op rfl rfl (.cons (op_fieldAddr_ref rfl rfl fo29_4 ⟨rfl, rfl⟩) (.cons (op_fieldAddr_ref rfl rfl fo29_4 ⟨rfl, rfl⟩) (.nil))) <| dOps_op rfl rfl (.cons (op_load' rfl rfl rfl ta27 rfl ⟨rfl, rfl⟩) (.cons (op_load' rfl rfl rfl ta27 rfl ⟨rfl, rfl⟩) (.nil))) <| dOps_op rfl rfl (.cons (op_call rfl rfl rfl co131 (xrow_spec s1 w1 hl1 (by omega) _)) .nil) ?_
 refine dOps_op rfl rfl (.cons (op_fieldAddr_ref rfl rfl fo29_2 ⟨rfl, rfl⟩) (.cons (op_fieldAddr_ref rfl rfl fo29_2 ⟨rfl, rfl⟩) (.nil))) <| dOps_op rfl rfl (.cons (op_load' rfl rfl rfl ta25 rfl ⟨rfl, rfl⟩) (.cons (op_load' rfl rfl rfl ta25 rfl ⟨rfl, rfl⟩) (.nil))) <| dOps_op rfl rfl (.cons (op_fieldAddr_ref rfl rfl fo29_4 ⟨rfl, rfl⟩) (.cons (op_fieldAddr_ref rfl rfl fo29_4 ⟨rfl, rfl⟩) (.nil))) <| dOps_op rfl rfl (.cons (op_load' rfl rfl rfl ta27 rfl ⟨rfl, rfl⟩) (.cons (op_load' rfl rfl rfl ta27 rfl ⟨rfl, rfl⟩) (.nil))) <| dOps_op rfl rfl (.cons (op_call rfl rfl rfl co131 (xrow_spec s2 w2 hl2 (by omega) _)) .nil) ?_
 refine dOps_eff rfl rfl rfl rfl (op_call rfl rfl rfl co130 ((xmerged_spec (s1.zip w1) (s2.zip w2) _ _).mono fun _ _ h => ⟨h.1.trans (fn_own [_, _, _, _, _, _]), h.2.trans (List.append_assoc ..)⟩)) ?_
 refine dOps_nil <| mwp_block <| mwp_cellrowAt 5 2 9 1 rfl rfl (Nat.le_refl _) rfl rfl <| mwp_cellrowAt 5 4 29 5 rfl rfl (Nat.le_refl _) rfl rfl ?_
 refine mwp_rangeC (L0 := _) .ret (.inl rfl) (okE f l) (fun j => ([.cells (encS (.mk k (.mk k1 i1 :: rest))).cells, .cells (encV (.mk n1 m1 s1 c1 w1)).cells, .cells (encV (.mk n2 m2 s2 c2 w2)).cells, .cells [.int .u64 0, .int .u64 0, .lst0, .lst0, .lst0], .cells [.iface0], .cells [.int .u64 0, .int .u64 0, .lst (some (S.length + 9)) 1 (((accE f l j).map fun e => encX e.1)), .lst0, .lst (some (S.length + 10)) 5 (((accE f l j).map fun e => encV e.2))], .cells [.lst none 3 ((restE cmpX (s1.zip w1) (s2.zip w2) j).1.map (encR encX))], .cells [.lst none 3 ((restE cmpX (s1.zip w1) (s2.zip w2) j).2.map (encR encX))], .cells [.fn (.func 132) [] []], .row 9 1 (accE f l j).length, .row 29 5 (accE f l j).length] : MS)) (fun j => ([.cells (encS (.mk k (.mk k1 i1 :: rest))).cells, .cells (encV (.mk n1 m1 s1 c1 w1)).cells, .cells (encV (.mk n2 m2 s2 c2 w2)).cells, .cells [.int .u64 0, .int .u64 0, .lst0, .lst0, .lst0], .cells [.iface0], .cells [.int .u64 0, .int .u64 0, .lst (some (S.length + 9)) 1 (((accE f l j).map fun e => encX e.1)), .lst0, .lst (some (S.length + 10)) 5 (((accE f l j).map fun e => encV e.2))], .cells [.lst none 3 ((restE cmpX (s1.zip w1) (s2.zip w2) (j + 1)).1.map (encR encX))], .cells [.lst none 3 ((restE cmpX (s1.zip w1) (s2.zip w2) (j + 1)).2.map (encR encX))], .cells [.fn (.func 132) [] []], .row 9 1 (accE f l j).length, .row 29 5 (accE f l j).length] : MS)) (fun j => ([.cells (encS (.mk k (.mk k1 i1 :: rest))).cells, .cells (encV (.mk n1 m1 s1 c1 w1)).cells, .cells (encV (.mk n2 m2 s2 c2 w2)).cells, .cells [.int .u64 0, .int .u64 0, .lst0, .lst0, .lst0], .cells [encErr 13], .cells [.int .u64 0, .int .u64 0, .lst (some (S.length + 9)) 1 (((accE f l j).map fun e => encX e.1)), .lst0, .lst (some (S.length + 10)) 5 (((accE f l j).map fun e => encV e.2))], .cells [.lst none 3 ((restE cmpX (s1.zip w1) (s2.zip w2) (j + 1)).1.map (encR encX))], .cells [.lst none 3 ((restE cmpX (s1.zip w1) (s2.zip w2) (j + 1)).2.map (encR encX))], .cells [.fn (.func 132) [] []], .row 9 1 (accE f l j).length, .row 29 5 (accE f l j).length] : MS)) (fun j => rfl) (fun j => rfl) (fun j => rfl) rfl
  (fun j o ho n hn => by
   simp only [List.mem_cons, List.not_mem_nil, or_false] at ho
   rcases ho with rfl | rfl | rfl | rfl | rfl | rfl | rfl | rfl | rfl | rfl | rfl
   ·exact clo_S _ _
   ·exact clo_V _ _
   ·exact clo_V _ _
   ·exact clo_Z _
   ·exact clo_1 .iface0
   ·exact clo_outX (by simp only [List.length_append, List.length_cons, List.length_nil] at hn; omega) (by simp only [List.length_append, List.length_cons, List.length_nil] at hn; omega)
   ·exact clo_bx _ _
   ·exact clo_bx _ _
   ·exact clo_1 (.fn _ _ _ (fun _ h => by cases h) (fun _ h => by cases h))
   ·exact trivial
   ·exact trivial)
  (fun j o ho n hn => by
   simp only [List.mem_cons, List.not_mem_nil, or_false] at ho
   rcases ho with rfl | rfl | rfl | rfl | rfl | rfl | rfl | rfl | rfl | rfl | rfl
   ·exact clo_S _ _
   ·exact clo_V _ _
   ·exact clo_V _ _
   ·exact clo_Z _
   ·exact clo_1 .iface0
   ·exact clo_outX (by simp only [List.length_append, List.length_cons, List.length_nil] at hn; omega) (by simp only [List.length_append, List.length_cons, List.length_nil] at hn; omega)
   ·exact clo_bx _ _
   ·exact clo_bx _ _
   ·exact clo_1 (.fn _ _ _ (fun _ h => by cases h) (fun _ h => by cases h))
   ·exact trivial
   ·exact trivial)
  (fun j o ho n hn => by
   simp only [List.mem_cons, List.not_mem_nil, or_false] at ho
   rcases ho with rfl | rfl | rfl | rfl | rfl | rfl | rfl | rfl | rfl | rfl | rfl
   ·exact clo_S _ _
   ·exact clo_V _ _
   ·exact clo_V _ _
   ·exact clo_Z _
   ·exact clo_1 (.iface _ _ (.int _ _))
   ·exact clo_outX (by simp only [List.length_append, List.length_cons, List.length_nil] at hn; omega) (by simp only [List.length_append, List.length_cons, List.length_nil] at hn; omega)
   ·exact clo_bx _ _
   ·exact clo_bx _ _
   ·exact clo_1 (.fn _ _ _ (fun _ h => by cases h) (fun _ h => by cases h))
   ·exact trivial
   ·exact trivial) rfl co152 rfl (by simp) (xmerged_iter cmpX _ co132 (fun a b S => strCmp_spec a b S) (s1.zip w1) (s2.zip w2) (S.length + 6) (S.length + 7) (S.length + 8) (S.length + 12) (by omega)) (fun j => by simp) (fun j hj => ⟨get_mid_ (k := 6) rfl, get_mid_ (k := 7) rfl, get_mid_ (k := 8) rfl, ?_⟩) (fun j s q => by simp) rfl (fun y hy => by obtain ⟨i, _, rfl⟩ := List.mem_map.1 hy; rfl) ?_ ?_ ?_
 ·rw [set_mid_ (k := 6) rfl, set_mid_ (k := 7) rfl]; rfl
 ·
  intro j y hy hbef L'
  rw [List.getElem?_map] at hy
  obtain ⟨e, hs, rfl⟩ := Option.map_eq_some_iff.1 hy
  replace hs : l[j]? = some e := by rw [← hl]; exact hs
  have hjl : j < l.length := (List.getElem?_eq_some_iff.1 hs).1
  have hacc := acc_all (f := f) (by omega) hbef
  have hal : (accE f l j).length ≤ 1000 := by have h1 := goE_len hacc; rw [List.length_take] at h1; omega
  refine qR rfl <| qO rfl <| op_alloc rfl zm147 <| qO rfl <| op_store_last rfl rfl rfl sz147 rfl (one_encEX e) (Nat.le_of_ble_eq_true rfl) <| qN ?_
  refine ⟨rfl, [_], rfl, ?_⟩
  rw [List.append_assoc (S ++ _)]
  refine mwp_abs fun R hR => ?_
  have hE0 : ∀ (x : MObj) (A' : MS), A'.length = S.length + 11 → (A' ++ R)[((S ++ ([.cells (encS (.mk k (.mk k1 i1 :: rest))).cells, .cells (encV (.mk n1 m1 s1 c1 w1)).cells, .cells (encV (.mk n2 m2 s2 c2 w2)).cells, .cells [.int .u64 0, .int .u64 0, .lst0, .lst0, .lst0], .cells [.iface0], .cells [.int .u64 0, .int .u64 0, .lst (some (S.length + 9)) 1 (((accE f l j).map fun e => encX e.1)), .lst0, .lst (some (S.length + 10)) 5 (((accE f l j).map fun e => encV e.2))], .cells [.lst none 3 ((restE cmpX (s1.zip w1) (s2.zip w2) (j + 1)).1.map (encR encX))], .cells [.lst none 3 ((restE cmpX (s1.zip w1) (s2.zip w2) (j + 1)).2.map (encR encX))], .cells [.fn (.func 132) [] []], .row 9 1 (accE f l j).length, .row 29 5 (accE f l j).length] : MS)) ++ x :: L').length]? = some (.cells (encE encX e).cells) := fun x A' hA => by rw [hR]; exact get_rt0 (by simpa using hA)
  have hE : ∀ (x : MObj) (A' Z : MS), A'.length = S.length + 11 → (A' ++ (R ++ Z))[((S ++ ([.cells (encS (.mk k (.mk k1 i1 :: rest))).cells, .cells (encV (.mk n1 m1 s1 c1 w1)).cells, .cells (encV (.mk n2 m2 s2 c2 w2)).cells, .cells [.int .u64 0, .int .u64 0, .lst0, .lst0, .lst0], .cells [.iface0], .cells [.int .u64 0, .int .u64 0, .lst (some (S.length + 9)) 1 (((accE f l j).map fun e => encX e.1)), .lst0, .lst (some (S.length + 10)) 5 (((accE f l j).map fun e => encV e.2))], .cells [.lst none 3 ((restE cmpX (s1.zip w1) (s2.zip w2) (j + 1)).1.map (encR encX))], .cells [.lst none 3 ((restE cmpX (s1.zip w1) (s2.zip w2) (j + 1)).2.map (encR encX))], .cells [.fn (.func 132) [] []], .row 9 1 (accE f l j).length, .row 29 5 (accE f l j).length] : MS)) ++ x :: L').length]? = some (.cells (encE encX e).cells) := fun x A' Z hA => by rw [hR]; exact get_rtz (by simpa using hA) Z
  refine mwp_block <| mwp_seq ?_
  have hof := fun S => xof_spec k1 i1 f e (fun y hy S => hb _ (hmem e (List.mem_of_getElem? hs) y hy).1 y (hmem e (List.mem_of_getElem? hs) y hy).2 S) S
  rcases hf : ofE f e with _ | ⟨⟨n3, m3, s3, c3, w3⟩⟩ <;> rw [hf] at hof
  ·
   refine mwp_draw [9, 10] [_, (S ++ [.cells (encS (.mk k (.mk k1 i1 :: rest))).cells, .cells (encV (.mk n1 m1 s1 c1 w1)).cells, .cells (encV (.mk n2 m2 s2 c2 w2)).cells, .cells [.int .u64 0, .int .u64 0, .lst0, .lst0, .lst0], .cells [.iface0], .cells [.int .u64 0, .int .u64 0, .lst (some (S.length + 9)) 1 (((accE f l j).map fun e => encX e.1)), .lst0, .lst (some (S.length + 10)) 5 (((accE f l j).map fun e => encV e.2))], .cells [.lst none 3 ((restE cmpX (s1.zip w1) (s2.zip w2) (j + 1)).1.map (encR encX))], .cells [.lst none 3 ((restE cmpX (s1.zip w1) (s2.zip w2) (j + 1)).2.map (encR encX))], .cells [.fn (.func 132) [] []], .row 9 1 (accE f l j).length, .row 29 5 (accE f l j).length]) ++ (R ++ [.cells [.int .u64 0, .int .u64 0, .lst0, .lst0, .lst0]]), (S ++ [.cells (encS (.mk k (.mk k1 i1 :: rest))).cells, .cells (encV (.mk n1 m1 s1 c1 w1)).cells, .cells (encV (.mk n2 m2 s2 c2 w2)).cells, .cells [.int .u64 0, .int .u64 0, .lst0, .lst0, .lst0], .cells [.iface0], .cells [.int .u64 0, .int .u64 0, .lst (some (S.length + 9)) 1 (((accE f l j).map fun e => encX e.1)), .lst0, .lst (some (S.length + 10)) 5 (((accE f l j).map fun e => encV e.2))], .cells [.lst none 3 ((restE cmpX (s1.zip w1) (s2.zip w2) (j + 1)).1.map (encR encX))], .cells [.lst none 3 ((restE cmpX (s1.zip w1) (s2.zip w2) (j + 1)).2.map (encR encX))], .cells [.fn (.func 132) [] []], .row 9 1 (accE f l j).length, .row 29 5 (accE f l j).length]) ++ (R ++ [.cells (encV noV).cells])] mo (by decide) rfl rfl rfl rfl ?_
   refine dOps_op rfl rfl (.cons (op_fieldAddr_ref rfl rfl fo37_1 ⟨rfl, rfl⟩) (.cons (op_fieldAddr_ref rfl rfl fo37_1 ⟨rfl, rfl⟩) (.nil))) <| dOps_op rfl rfl (.cons (op_load_mid rfl rfl rfl ta35 rfl ⟨rfl, rfl⟩) (.cons (op_load_mid rfl rfl rfl ta35 rfl ⟨rfl, rfl⟩) (.nil))) <| dOps_op rfl rfl (.cons (op_indexAddr rfl Tryz.underlying35 sz37 (by decide) rfl rfl rfl (show _ = some (encS (.mk k1 i1)) from rfl) ⟨rfl, rfl⟩) (.cons (op_indexAddr rfl Tryz.underlying35 sz37 (by decide) rfl rfl rfl (show _ = some (encS (.mk k1 i1)) from rfl) ⟨rfl, rfl⟩) (.nil))) ?_
   refine dOps_op rfl rfl (.cons (op_load_sptr rfl rfl ta37 rfl ⟨rfl, rfl⟩) (.cons (op_load_sptr rfl rfl ta37 rfl ⟨rfl, rfl⟩) (.nil))) <| dOps_op rfl rfl (.cons (op_load_ref rfl rfl (hE0 _ _ (by simp)) ta147 rfl ⟨rfl, rfl⟩) (.cons (op_load_ref rfl rfl (hE _ _ _ (by simp)) ta147 rfl ⟨rfl, rfl⟩) (.nil))) ?_
   refine dOps_op rfl rfl (.cons (op_call rfl rfl rfl co133 (hof _)) (.cons (op_call rfl rfl rfl co133 (hof _)) (.nil))) <| dOps_op rfl rfl (.cons (op_move rfl rfl ⟨rfl, rfl⟩) (.cons (op_move rfl rfl ⟨rfl, rfl⟩) (.nil))) <| dOps_op rfl rfl (.cons (op_extract rfl rfl rfl ⟨rfl, rfl⟩) (.cons (op_extract rfl rfl rfl ⟨rfl, rfl⟩) (.nil))) <| dOps_op rfl rfl (.cons (op_extract rfl rfl rfl ⟨rfl, rfl⟩) (.cons (op_extract rfl rfl rfl ⟨rfl, rfl⟩) (.cons (op_extract rfl rfl rfl ⟨rfl, rfl⟩) (.nil)))) <| dOps_eff rfl rfl rfl rfl (op_alloc rfl zm29 ⟨rfl, List.append_assoc ..⟩) <| dOps_eff rfl rfl rfl rfl (op_store rfl rfl rfl (get_end rfl) sz29 rfl rfl (Nat.le_of_ble_eq_true rfl) ⟨rfl, set_end⟩) <| dO rfl rfl rfl (op_assign rfl rfl ⟨rfl, rfl⟩) <| dOps_nil <| mwp_seq <| mwp_seq <| qR rfl <| qM rfl rfl rfl <| qO rfl <| op_ifnil rfl Tryz.underlying32 rfl rfl (.inr ⟨rfl, rfl⟩) <| qN <| mwp_cond_t rfl (rfl) <| mwp_seq <| qR rfl <| qO rfl <| op_build rfl Tryz.underlying29 zm29 .nil (by kernel_rfl) ?_
   refine qM rfl rfl rfl <| qO rfl <| op_store_mid rfl rfl rfl rfl sz29 rfl rfl (Nat.le_of_ble_eq_true rfl) rfl <| qO rfl <| op_store_mid rfl rfl rfl rfl sz32 rfl rfl (Nat.le_of_ble_eq_true rfl) rfl <| qN <| mwp_ret ?_
   exact .inr ⟨okE_none hs hf, rfl, [_, _], by rw [hR]; simp only [List.append_assoc, List.cons_append, List.nil_append]; rfl⟩
  ·
   refine mwp_draw [9, 10] [_, (S ++ [.cells (encS (.mk k (.mk k1 i1 :: rest))).cells, .cells (encV (.mk n1 m1 s1 c1 w1)).cells, .cells (encV (.mk n2 m2 s2 c2 w2)).cells, .cells [.int .u64 0, .int .u64 0, .lst0, .lst0, .lst0], .cells [.iface0], .cells [.int .u64 0, .int .u64 0, .lst (some (S.length + 9)) 1 (((accE f l j).map fun e => encX e.1)), .lst0, .lst (some (S.length + 10)) 5 (((accE f l j).map fun e => encV e.2))], .cells [.lst none 3 ((restE cmpX (s1.zip w1) (s2.zip w2) (j + 1)).1.map (encR encX))], .cells [.lst none 3 ((restE cmpX (s1.zip w1) (s2.zip w2) (j + 1)).2.map (encR encX))], .cells [.fn (.func 132) [] []], .row 9 1 (accE f l j).length, .row 29 5 (accE f l j).length]) ++ (R ++ [.cells [.int .u64 0, .int .u64 0, .lst0, .lst0, .lst0]]), (S ++ [.cells (encS (.mk k (.mk k1 i1 :: rest))).cells, .cells (encV (.mk n1 m1 s1 c1 w1)).cells, .cells (encV (.mk n2 m2 s2 c2 w2)).cells, .cells [.int .u64 0, .int .u64 0, .lst0, .lst0, .lst0], .cells [.iface0], .cells [.int .u64 0, .int .u64 0, .lst (some (S.length + 9)) 1 (((accE f l j).map fun e => encX e.1)), .lst0, .lst (some (S.length + 10)) 5 (((accE f l j).map fun e => encV e.2))], .cells [.lst none 3 ((restE cmpX (s1.zip w1) (s2.zip w2) (j + 1)).1.map (encR encX))], .cells [.lst none 3 ((restE cmpX (s1.zip w1) (s2.zip w2) (j + 1)).2.map (encR encX))], .cells [.fn (.func 132) [] []], .row 9 1 (accE f l j).length, .row 29 5 (accE f l j).length]) ++ (R ++ [.cells (encV (.mk n3 m3 s3 c3 w3)).cells])] mo (by decide) rfl rfl rfl rfl ?_
   refine dOps_op rfl rfl (.cons (op_fieldAddr_ref rfl rfl fo37_1 ⟨rfl, rfl⟩) (.cons (op_fieldAddr_ref rfl rfl fo37_1 ⟨rfl, rfl⟩) (.nil))) <| dOps_op rfl rfl (.cons (op_load_mid rfl rfl rfl ta35 rfl ⟨rfl, rfl⟩) (.cons (op_load_mid rfl rfl rfl ta35 rfl ⟨rfl, rfl⟩) (.nil))) <| dOps_op rfl rfl (.cons (op_indexAddr rfl Tryz.underlying35 sz37 (by decide) rfl rfl rfl (show _ = some (encS (.mk k1 i1)) from rfl) ⟨rfl, rfl⟩) (.cons (op_indexAddr rfl Tryz.underlying35 sz37 (by decide) rfl rfl rfl (show _ = some (encS (.mk k1 i1)) from rfl) ⟨rfl, rfl⟩) (.nil))) ?_
   refine dOps_op rfl rfl (.cons (op_load_sptr rfl rfl ta37 rfl ⟨rfl, rfl⟩) (.cons (op_load_sptr rfl rfl ta37 rfl ⟨rfl, rfl⟩) (.nil))) <| dOps_op rfl rfl (.cons (op_load_ref rfl rfl (hE0 _ _ (by simp)) ta147 rfl ⟨rfl, rfl⟩) (.cons (op_load_ref rfl rfl (hE _ _ _ (by simp)) ta147 rfl ⟨rfl, rfl⟩) (.nil))) ?_
   refine dOps_op rfl rfl (.cons (op_call rfl rfl rfl co133 (hof _)) (.cons (op_call rfl rfl rfl co133 (hof _)) (.nil))) <| dOps_op rfl rfl (.cons (op_move rfl rfl ⟨rfl, rfl⟩) (.cons (op_move rfl rfl ⟨rfl, rfl⟩) (.nil))) <| dOps_op rfl rfl (.cons (op_extract rfl rfl rfl ⟨rfl, rfl⟩) (.cons (op_extract rfl rfl rfl ⟨rfl, rfl⟩) (.nil))) <| dOps_op rfl rfl (.cons (op_extract rfl rfl rfl ⟨rfl, rfl⟩) (.cons (op_extract rfl rfl rfl ⟨rfl, rfl⟩) (.cons (op_extract rfl rfl rfl ⟨rfl, rfl⟩) (.nil)))) <| dOps_eff rfl rfl rfl rfl (op_alloc rfl zm29 ⟨rfl, List.append_assoc ..⟩) <| dOps_eff rfl rfl rfl rfl (op_store rfl rfl rfl (get_end rfl) sz29 rfl rfl (Nat.le_of_ble_eq_true rfl) ⟨rfl, set_end⟩) <| dO rfl rfl rfl (op_assign rfl rfl ⟨rfl, rfl⟩) <| dOps_nil <| mwp_seq <| mwp_seq <| qR rfl <| qM rfl rfl rfl <| qO rfl <| op_if0 rfl Tryz.underlying32 rfl rfl (.inr ⟨rfl, rfl⟩) <| qN <| mwp_cond_f rfl (rfl) <| mwp_skip ?_
   refine mwp_draw [5, 10, 12, 14] [_, (S ++ [.cells (encS (.mk k (.mk k1 i1 :: rest))).cells, .cells (encV (.mk n1 m1 s1 c1 w1)).cells, .cells (encV (.mk n2 m2 s2 c2 w2)).cells, .cells [.int .u64 0, .int .u64 0, .lst0, .lst0, .lst0], .cells [.iface0], .cells [.int .u64 0, .int .u64 0, .lst (some (S.length + 9)) 1 (((accE f l j).map fun e => encX e.1)), .lst0, .lst (some (S.length + 10)) 5 (((accE f l j).map fun e => encV e.2))], .cells [.lst none 3 ((restE cmpX (s1.zip w1) (s2.zip w2) (j + 1)).1.map (encR encX))], .cells [.lst none 3 ((restE cmpX (s1.zip w1) (s2.zip w2) (j + 1)).2.map (encR encX))], .cells [.fn (.func 132) [] []], .row 9 1 ((accE f l j).length + 1), .row 29 5 (accE f l j).length]) ++ (R ++ [.cells (encV (.mk n3 m3 s3 c3 w3)).cells]), (S ++ [.cells (encS (.mk k (.mk k1 i1 :: rest))).cells, .cells (encV (.mk n1 m1 s1 c1 w1)).cells, .cells (encV (.mk n2 m2 s2 c2 w2)).cells, .cells [.int .u64 0, .int .u64 0, .lst0, .lst0, .lst0], .cells [.iface0], .cells [.int .u64 0, .int .u64 0, .lst (some (S.length + 9)) 1 (((accE f l j).map fun e => encX e.1)), .lst0, .lst (some (S.length + 10)) 5 (((accE f l j).map fun e => encV e.2))], .cells [.lst none 3 ((restE cmpX (s1.zip w1) (s2.zip w2) (j + 1)).1.map (encR encX))], .cells [.lst none 3 ((restE cmpX (s1.zip w1) (s2.zip w2) (j + 1)).2.map (encR encX))], .cells [.fn (.func 132) [] []], .row 9 1 ((accE f l j).length + 1), .row 29 5 ((accE f l j).length + 1)]) ++ (R ++ [.cells (encV (.mk n3 m3 s3 c3 w3)).cells]), (S ++ [.cells (encS (.mk k (.mk k1 i1 :: rest))).cells, .cells (encV (.mk n1 m1 s1 c1 w1)).cells, .cells (encV (.mk n2 m2 s2 c2 w2)).cells, .cells [.int .u64 0, .int .u64 0, .lst0, .lst0, .lst0], .cells [.iface0], .cells [.int .u64 0, .int .u64 0, .lst (some (S.length + 9)) 1 ((((accE f l j).map fun e => encX e.1) ++ [encX e.1])), .lst0, .lst (some (S.length + 10)) 5 (((accE f l j).map fun e => encV e.2))], .cells [.lst none 3 ((restE cmpX (s1.zip w1) (s2.zip w2) (j + 1)).1.map (encR encX))], .cells [.lst none 3 ((restE cmpX (s1.zip w1) (s2.zip w2) (j + 1)).2.map (encR encX))], .cells [.fn (.func 132) [] []], .row 9 1 ((accE f l j).length + 1), .row 29 5 ((accE f l j).length + 1)]) ++ (R ++ [.cells (encV (.mk n3 m3 s3 c3 w3)).cells]), (S ++ [.cells (encS (.mk k (.mk k1 i1 :: rest))).cells, .cells (encV (.mk n1 m1 s1 c1 w1)).cells, .cells (encV (.mk n2 m2 s2 c2 w2)).cells, .cells [.int .u64 0, .int .u64 0, .lst0, .lst0, .lst0], .cells [.iface0], .cells [.int .u64 0, .int .u64 0, .lst (some (S.length + 9)) 1 ((((accE f l j).map fun e => encX e.1) ++ [encX e.1])), .lst0, .lst (some (S.length + 10)) 5 ((((accE f l j).map fun e => encV e.2) ++ [encV (.mk n3 m3 s3 c3 w3)]))], .cells [.lst none 3 ((restE cmpX (s1.zip w1) (s2.zip w2) (j + 1)).1.map (encR encX))], .cells [.lst none 3 ((restE cmpX (s1.zip w1) (s2.zip w2) (j + 1)).2.map (encR encX))], .cells [.fn (.func 132) [] []], .row 9 1 ((accE f l j).length + 1), .row 29 5 ((accE f l j).length + 1)]) ++ (R ++ [.cells (encV (.mk n3 m3 s3 c3 w3)).cells])] mo (by decide) rfl rfl rfl rfl ?_
   refine dOps_op rfl rfl (.cons (op_fieldAddr_ref rfl rfl fo29_2 ⟨rfl, rfl⟩) (.cons (op_fieldAddr_ref rfl rfl fo29_2 ⟨rfl, rfl⟩) (.cons (op_fieldAddr_ref rfl rfl fo29_2 ⟨rfl, rfl⟩) (.nil)))) <| dO rfl rfl rfl (op_load_mid rfl rfl rfl ta25 rfl ⟨rfl, rfl⟩) <| dOps_op rfl rfl (.cons (op_fieldAddr_ref rfl rfl fo147_0 ⟨rfl, rfl⟩) (.cons (op_fieldAddr_ref rfl rfl fo147_0 ⟨rfl, rfl⟩) (.cons (op_fieldAddr_ref rfl rfl fo147_0 ⟨rfl, rfl⟩) (.nil)))) <| dOps_op rfl rfl (.cons (op_load_ref rfl rfl (hE _ _ _ (by simp)) ta9 rfl ⟨rfl, rfl⟩) (.cons (op_load_ref rfl rfl (hE _ _ _ (by simp)) ta9 rfl ⟨rfl, rfl⟩) (.cons (op_load_ref rfl rfl (hE _ _ _ (by simp)) ta9 rfl ⟨rfl, rfl⟩) (.nil)))) ?_
   refine dO rfl rfl rfl (op_buildSlice rfl Tryz.underlying25 el9 rfl rfl (by decide) (by decide) rfl rfl ⟨rfl, rfl⟩) ?_
   refine dOps_eff rfl rfl rfl rfl (op_append_mid rfl Tryz.underlying25 el9 rfl rfl rfl (by simp) (by simp; omega) (by simp; omega) rfl ⟨rfl, rfl⟩) ?_
   refine dOps_op rfl rfl (.cons (op_fieldAddr_ref rfl rfl fo29_4 ⟨rfl, rfl⟩) (.cons (op_fieldAddr_ref rfl rfl fo29_4 ⟨rfl, rfl⟩) (.cons (op_fieldAddr_ref rfl rfl fo29_4 ⟨rfl, rfl⟩) (.nil)))) <| dOps_op rfl rfl (.cons (op_load_mid rfl rfl rfl ta27 rfl ⟨rfl, rfl⟩) (.cons (op_load_mid rfl rfl rfl ta27 rfl ⟨rfl, rfl⟩) (.nil))) <| dOps_op rfl rfl (.cons (op_load_ref rfl rfl (get_end (by simp)) ta29 rfl ⟨rfl, rfl⟩) (.cons (op_load_ref rfl rfl (get_end (by simp)) ta29 rfl ⟨rfl, rfl⟩) (.cons (op_load_ref rfl rfl (get_end (by simp)) ta29 rfl ⟨rfl, rfl⟩) (.cons (op_load_ref rfl rfl (get_end (by simp)) ta29 rfl ⟨rfl, rfl⟩) (.nil))))) ?_
   refine dOps_op rfl rfl (.cons (op_buildSlice rfl Tryz.underlying27 el29 rfl rfl (by decide) (by decide) rfl rfl ⟨rfl, rfl⟩) (.cons (op_buildSlice rfl Tryz.underlying27 el29 rfl rfl (by decide) (by decide) rfl rfl ⟨rfl, rfl⟩) (.nil))) ?_
   refine dOps_eff rfl rfl rfl rfl (op_append_mid rfl Tryz.underlying27 el29 rfl rfl rfl (by simp) (by simp; omega) (by simp; omega) rfl ⟨rfl, rfl⟩) ?_
   refine dOps_op rfl rfl (.cons (op_fieldAddr_ref rfl rfl fo29_2 ⟨rfl, rfl⟩) (.cons (op_fieldAddr_ref rfl rfl fo29_2 ⟨rfl, rfl⟩) (.nil))) <| dOps_eff rfl rfl rfl rfl (op_store_mid rfl rfl rfl rfl sz25 rfl rfl (Nat.le_of_ble_eq_true rfl) rfl ⟨rfl, rfl⟩) <| dO rfl rfl rfl (op_fieldAddr_ref rfl rfl fo29_4 ⟨rfl, rfl⟩) <| dOps_eff rfl rfl rfl rfl (op_store_mid rfl rfl rfl rfl sz27 rfl rfl (Nat.le_of_ble_eq_true rfl) rfl ⟨rfl, rfl⟩) <| dOps_nil ?_
   exact .inl ⟨okE_some hs hf, rfl, [_, _], by rw [hR, acc_next hacc hs hf, List.map_append, List.map_append, len_snoc (l := accE f l j)]; simp only [List.append_assoc, List.cons_append, List.nil_append]; rfl⟩
 ·
  intro hall
  rw [List.length_map, show (mergeE cmpX (s1.zip w1) (s2.zip w2)).length = l.length from congrArg List.length hl]
  replace hall := acc_all (f := f) (j := l.length) (Nat.le_refl _) (fun i hi => hall i (by rw [List.length_map]; rw [← hl] at hi; exact hi))
  rw [List.take_length] at hall
  rw [List.append_assoc S]
  refine mwp_seq <| qR rfl <| qL rfl rfl rfl rfl ta29 rfl <| qO rfl <| op_store' rfl rfl rfl rfl sz29 rfl rfl (Nat.le_of_ble_eq_true rfl) rfl <| qO rfl <| op_store' rfl rfl rfl rfl sz32 rfl rfl (Nat.le_of_ble_eq_true rfl) rfl <| qN <| mwp_ret ?_
  exact ret_cell_cell (.inr rfl) Tryz.results98 rfl rfl ta29 rfl (.agg (.cons (.refl _) (.cons (.refl _) (.cons (.trans (.view _ _ _) (.of_eq (by rw [List.map_map]; rfl))) (.cons (.nil 1) (.cons (.trans (.view _ _ _) (.of_eq (by rw [encVs_eq, List.map_map]; rfl))) .nil)))))) (cl_encV _ (.mk 0 0 ((accE f l l.length).map (·.1)) [] ((accE f l l.length).map (·.2)))) rfl rfl ta32 rfl (.refl _) (.iface0) ⟨by rw [show mapsF f (.mk n1 m1 s1 c1 w1) (.mk n2 m2 s2 c2 w2) = some _ from by rw [mapsF, hl, hall]; rfl]; rfl, rfl⟩
 ·
  intro j y hy hp
  rw [List.getElem?_map] at hy
  obtain ⟨e, hs, rfl⟩ := Option.map_eq_some_iff.1 hy
  replace hs : l[j]? = some e := by rw [← hl]; exact hs
  rw [List.append_assoc S]
  exact ret_cell_cell (.inr rfl) Tryz.results98 rfl rfl ta29 rfl (.agg (.cons (.refl _) (.cons (.refl _) (.cons (.nil 1) (.cons (.nil 1) (.cons (.nil 5) .nil)))))) (cl_encV _ (noV)) rfl rfl ta32 rfl (.refl _) (.iface _ _ (.int _ _)) ⟨by rw [show mapsF f (.mk n1 m1 s1 c1 w1) (.mk n2 m2 s2 c2 w2) = none from by rw [mapsF, hl, bad_none hs hp]; rfl]; rfl, rfl⟩
end Go.Proofs.YtlooahbfpmigfaaGreat
end
section
set_option linter.unusedVariables false
set_option linter.unusedSimpArgs false
set_option maxRecDepth 20000
namespace Go.Proofs.YtlooahbfpmigfaaGreat
open Go Go.MV
theorem arity_spec (k : Int) (S : MS) : MCalls Tryz.prog 126 [.int .i64 k] S fun v σ' => v = .int .i64 (partsF k) ∧ σ' = S := by
 refine mcalls_body Tryz.func126 rfl Tryz.ntmps126 (Nat.le_of_ble_eq_true rfl) ?_
 refine mwp_seq <| qR rfl <| qA rfl rfl rfl <| qN <| mwp_seq <| mwp_seq <| qR rfl <| qM rfl rfl rfl <| qN <| mwp_block <| mwp_seq <| mwp_seq <| qR rfl <| qC rfl rfl rfl rfl rfl <| qA rfl rfl rfl <| qN ?_
 refine mwp_cond_split rfl (fun h4 => ?_) (fun h4 => ?_)
 ·
  refine mwp_skip <| mwp_cond_t rfl h4 <| mwp_seq <| qR rfl <| qA rfl rfl rfl <| qN <| mwp_ret ?_
  exact ret_tmp (.inr rfl) Tryz.results126 rfl (.refl _) (.int _ _) ⟨by simp_all [partsF], rfl⟩
 ·
  refine mwp_seq <| qR rfl <| qC rfl rfl rfl rfl rfl <| qA rfl rfl rfl <| qN ?_
  refine mwp_cond_split rfl (fun h4 => ?_) (fun h4 => ?_)
  ·
   refine mwp_skip <| mwp_cond_t rfl h4 <| mwp_seq <| qR rfl <| qA rfl rfl rfl <| qN <| mwp_ret ?_
   exact ret_tmp (.inr rfl) Tryz.results126 rfl (.refl _) (.int _ _) ⟨by simp_all [partsF], rfl⟩
  ·
   refine mwp_seq <| qR rfl <| qC rfl rfl rfl rfl rfl <| qA rfl rfl rfl <| qN ?_
   refine mwp_cond_split rfl (fun h4 => ?_) (fun h4 => ?_)
   ·
    refine mwp_skip <| mwp_cond_t rfl h4 <| mwp_seq <| qR rfl <| qA rfl rfl rfl <| qN <| mwp_ret ?_
    exact ret_tmp (.inr rfl) Tryz.results126 rfl (.refl _) (.int _ _) ⟨by simp_all [partsF], rfl⟩
   ·
    refine mwp_seq <| qR rfl <| qC rfl rfl rfl rfl rfl <| qA rfl rfl rfl <| qN ?_
    refine mwp_cond_split rfl (fun h4 => ?_) (fun h4 => ?_)
    ·
     refine mwp_skip <| mwp_cond_t rfl h4 <| mwp_seq <| qR rfl <| qA rfl rfl rfl <| qN <| mwp_ret ?_
     exact ret_tmp (.inr rfl) Tryz.results126 rfl (.refl _) (.int _ _) ⟨by simp_all [partsF], rfl⟩
    ·
     refine qR rfl <| qC rfl rfl rfl rfl rfl <| qA rfl rfl rfl <| qN ?_
     refine mwp_cond_split rfl (fun h4 => ?_) (fun h4 => ?_)
     ·
      refine mwp_seq <| qR rfl <| qA rfl rfl rfl <| qN <| mwp_ret ?_
      exact ret_tmp (.inr rfl) Tryz.results126 rfl (.refl _) (.int _ _) ⟨by simp_all [partsF], rfl⟩
     ·
      refine mwp_seq <| mwp_seq <| qR rfl <| qC rfl rfl rfl rfl rfl <| qA rfl rfl rfl <| qN ?_
      refine mwp_cond_split rfl (fun h10 => ?_) (fun h10 => ?_)
      ·
       refine mwp_skip <| mwp_cond_t rfl h10 <| mwp_seq <| qR rfl <| qA rfl rfl rfl <| qN <| mwp_ret ?_
       exact ret_tmp (.inr rfl) Tryz.results126 rfl (.refl _) (.int _ _) ⟨by simp_all [partsF], rfl⟩
      ·
       refine qR rfl <| qC rfl rfl rfl rfl rfl <| qA rfl rfl rfl <| qN ?_
       refine mwp_cond_split rfl (fun h10 => ?_) (fun h10 => ?_)
       ·
        refine mwp_seq <| qR rfl <| qA rfl rfl rfl <| qN <| mwp_ret ?_
        exact ret_tmp (.inr rfl) Tryz.results126 rfl (.refl _) (.int _ _) ⟨by simp_all [partsF], rfl⟩
       ·
        refine mwp_seq <| qR rfl <| qC rfl rfl rfl rfl rfl <| qA rfl rfl rfl <| qN ?_
        refine mwp_cond_split rfl (fun h13 => ?_) (fun h13 => ?_)
        ·
         refine mwp_seq <| qR rfl <| qA rfl rfl rfl <| qN <| mwp_ret ?_
         exact ret_tmp (.inr rfl) Tryz.results126 rfl (.refl _) (.int _ _) ⟨by simp_all [partsF], rfl⟩
        ·
         refine mwp_skip <| mwp_seq <| qR rfl <| qA rfl rfl rfl <| qN <| mwp_ret ?_
         exact ret_tmp (.inr rfl) Tryz.results126 rfl (.refl _) (.int _ _) ⟨by simp_all [partsF], rfl⟩
theorem rIs_spec (d : Nat) : d < 1000 → ∀ (s : Sch) (S : MS), MCalls Tryz.prog 93 [encS s, .int .i64 (d : Int)] S fun v σ' => v = .bool (isF d s) ∧ σ' = S := by
 induction d with
 | zero =>
  rintro - ⟨k, ins⟩ S
  refine mcalls_body Tryz.func93 rfl Tryz.ntmps93 (Nat.le_of_ble_eq_true rfl) ?_
  refine mwp_seq <| qR rfl <| qB rfl rfl rfl rfl rfl <| qA rfl rfl rfl <| qN <| mwp_seq <| mwp_seq ?_
  refine mwp_draw [] [_] mo (by decide) rfl rfl rfl rfl ?_
  refine dO rfl rfl rfl (op_move rfl rfl ⟨rfl, rfl⟩) <| dO rfl rfl rfl (op_cmp rfl rfl rfl rfl ⟨rfl, rfl⟩) <| dO rfl rfl rfl (op_move rfl rfl ⟨rfl, rfl⟩) <| dS rfl rfl <| dS rfl rfl <| dS rfl rfl <| dS rfl rfl <| dS rfl rfl <| dS rfl rfl <| dS rfl rfl <| dO rfl rfl rfl (op_pick rfl rfl rfl ⟨rfl, rfl⟩) <| dOps_nil <| mwp_cond_t rfl (rfl) <| mwp_seq <| qR rfl <| qA rfl rfl rfl <| qN <| mwp_ret ?_
  exact ret_tmp (.inr rfl) Tryz.results93 rfl (.refl _) (.bool _) ⟨by simp [isF], rfl⟩
 | succ d ih =>
  rintro hd ⟨k, ins⟩ S
  have h0 : decide (((d + 1 : Nat) : Int) ≤ 0) = false := by simp <;> omega
  have hsub : IntKind.i64.wrap (((d + 1 : Nat) : Int) - 1) = (d : Int) := by rw [wrap_i64 (by omega)]; omega
  refine mcalls_body Tryz.func93 rfl Tryz.ntmps93 (Nat.le_of_ble_eq_true rfl) ?_
  refine mwp_seq <| qR rfl <| qB rfl rfl rfl rfl rfl <| qA rfl rfl rfl <| qN <| mwp_seq <| mwp_seq ?_
  refine mwp_draw [] [_] mo (by decide) rfl rfl rfl rfl ?_
  refine dO rfl rfl rfl (op_move rfl rfl ⟨rfl, rfl⟩) <| dO rfl rfl rfl (op_cmp rfl rfl rfl rfl ⟨rfl, rfl⟩) ?_
  rw [h0]
  refine dO rfl rfl rfl (op_move rfl rfl ⟨rfl, rfl⟩) <| dO rfl rfl rfl (op_fieldAddr_ref rfl rfl fo37_1 ⟨rfl, rfl⟩) <| dO rfl rfl rfl (op_load' rfl rfl rfl ta35 rfl ⟨rfl, rfl⟩) <| dO rfl rfl rfl (op_len_lst rfl Tryz.underlying35 rfl ⟨rfl, rfl⟩) <| dO rfl rfl rfl (op_fieldAddr_ref rfl rfl fo37_0 ⟨rfl, rfl⟩) <| dO rfl rfl rfl (op_load' rfl rfl rfl ta3 rfl ⟨rfl, rfl⟩) <| dOps_op rfl rfl (.cons (op_call rfl rfl rfl co126 (arity_spec _ _)) .nil) <| dO rfl rfl rfl (op_cmp rfl rfl rfl rfl ⟨rfl, rfl⟩) <| dO rfl rfl rfl (op_pick rfl rfl rfl ⟨rfl, rfl⟩) <| dOps_nil ?_
  refine mwp_cond_split rfl (fun h16 => ?_) (fun h16 => ?_)
  ·
   refine mwp_seq <| qR rfl <| qA rfl rfl rfl <| qN <| mwp_ret ?_
   exact ret_tmp (.inr rfl) Tryz.results93 rfl (.refl _) (.bool _) ⟨by rw [encSs_length] at h16; simp at h16; simp [isF]; try (intro h; exact absurd h.symm h16), rfl⟩
  ·
   refine mwp_len (t := 10) rfl fun hlen => ?_
   rw [encSs_length] at hlen
   refine mwp_skip <| mwp_seq <| mwp_seq <| qR rfl <| qA rfl rfl rfl <| qN <| mwp_block ?_
   refine mwp_loop0 (α := Nat) (fun i => [(1, .int .i64 ((d + 1 : Nat) : Int)), (2, .ref (S.length + 0) 0), (5, .int .i64 (i : Int))]) (fun i => [.cells [.int .i64 k, .lst none 2 (encSs ins)]]) (fun i => i ≤ ins.length ∧ (ins.take i).all (isF d) = true) (fun i => ins.length - i) (0) ⟨by omega, rfl⟩ rfl (.keep rfl (.keep rfl (.keep rfl .nil))) ?_
   rintro i ⟨hi, hall⟩
   refine mwp_seq <| mwp_seq <| qR rfl <| qM rfl rfl rfl <| qF rfl rfl rfl fo37_1 <| qL rfl rfl rfl rfl ta35 rfl <| qE rfl rfl Tryz.underlying35 rfl <| qC rfl rfl rfl rfl rfl <| qN ?_
   refine mwp_cond_split rfl (fun h21 => ?_) (fun h21 => ?_)
   ·
    have hlt : i < ins.length := by rw [encSs_length] at h21; simpa using h21
    obtain ⟨⟨k2, ins2⟩, hs⟩ : ∃ s, ins[i]? = some s := ⟨_, List.getElem?_eq_getElem hlt⟩
    refine mwp_skip <| mwp_seq <| mwp_block <| mwp_seq <| qR rfl <| qF rfl rfl rfl fo37_1 <| qL rfl rfl rfl rfl ta35 rfl <| qM rfl rfl rfl <| qO rfl <| op_indexAddr rfl Tryz.underlying35 sz37 (by decide) rfl rfl rfl (encSs_get hs) ?_
    refine qO rfl <| op_load_sptr rfl rfl ta37 rfl <| qM rfl rfl rfl <| qO rfl <| op_arith rfl rfl rfl rfl ?_
    rw [hsub]
    refine wOps_op rfl (op_call rfl rfl rfl co93 ((ih (by omega) (.mk k2 ins2) _).mono ?_))
    rintro _ _ ⟨rfl, rfl⟩
    refine qO rfl <| op_not rfl rfl <| qN ?_
    refine mwp_cond_split rfl (fun h32 => ?_) (fun h32 => ?_)
    ·
     refine mwp_seq <| qR rfl <| qA rfl rfl rfl <| qN <| mwp_ret ?_
     exact ret_tmp (.inr rfl) Tryz.results93 rfl (.refl _) (.bool _) ⟨by simp only [isF]; rw [List.all_eq_false.2 ⟨_, List.mem_of_getElem? hs, by simpa using h32⟩]; simp, rfl⟩
    ·
     refine mwp_skip <| qR rfl <| qM rfl rfl rfl <| qO rfl <| op_arith rfl rfl rfl rfl <| qA rfl rfl rfl <| qN ?_
     refine ⟨i + 1, by omega, ⟨by omega, ?_⟩, rfl, .keep rfl (.keep rfl (.eq rfl (int_succ hlt hlen) .nil))⟩
     rw [List.take_add_one, hs]
     simp [hall]
     simpa using h32
   ·
    have hge : i = ins.length := by rw [encSs_length] at h21; simp at h21; omega
    refine mwp_exit <| mwp_seq <| qR rfl <| qA rfl rfl rfl <| qN <| mwp_ret ?_
    exact ret_tmp (.inr rfl) Tryz.results93 rfl (.refl _) (.bool _) ⟨by rw [hge, List.take_length] at hall; rw [encSs_length] at h16; simp at h16; simp [isF, hall, h16], rfl⟩
theorem rIsSchema_spec (s : Sch) (S : MS) : MCalls Tryz.prog 64 [encS s] S fun v σ' => v = .bool (isF 16 s) ∧ σ' = S := by
 obtain ⟨k, ins⟩ := s
 refine mcalls_body Tryz.func64 rfl Tryz.ntmps64 (Nat.le_of_ble_eq_true rfl) ?_
 refine mwp_seq <| qR rfl <| qB rfl rfl rfl rfl rfl <| qA rfl rfl rfl <| qN <| mwp_seq <| qR rfl <| qL rfl rfl rfl rfl ta37 rfl ?_
 refine wOps_op rfl (op_call rfl rfl rfl co93 ((rIs_spec 16 (by omega) (.mk k ins) _).mono ?_))
 rintro _ _ ⟨rfl, rfl⟩
 refine qA rfl rfl rfl <| qN <| mwp_ret ?_
 exact ret_tmp (.inr rfl) Tryz.results64 rfl (.refl _) (.bool _) ⟨rfl, rfl⟩
end Go.Proofs.YtlooahbfpmigfaaGreat
end
section
set_option linter.unusedVariables false
set_option linter.unusedSimpArgs false
set_option maxRecDepth 20000
set_option maxHeartbeats 400000
namespace Go.Proofs.YtlooahbfpmigfaaGreat
open Go Go.MV
theorem rSameC_spec (a b : List Tk) (S : MS) : MCalls Tryz.prog 51 [.lst none 2 (a.map encT), .lst none 2 (b.map encT)] S fun v σ' => v = .bool (decide (a = b)) ∧ σ' = S := by
 refine mcalls_body Tryz.func51 rfl Tryz.ntmps51 (Nat.le_of_ble_eq_true rfl) ?_
 refine mwp_len (t := 0) rfl fun hlen => ?_
 rw [List.length_map] at hlen
 refine mwp_seq <| qR rfl <| qA rfl rfl rfl <| qN <| mwp_seq <| mwp_seq <| qR rfl <| qM rfl rfl rfl <| qE rfl rfl Tryz.underlying44 rfl <| qM rfl rfl rfl <| qE rfl rfl Tryz.underlying44 rfl <| qC rfl rfl rfl rfl rfl <| qN ?_
 refine mwp_cond_split rfl (fun h10 => ?_) (fun h10 => ?_)
 ·
  refine mwp_seq <| qR rfl <| qA rfl rfl rfl <| qN <| mwp_ret ?_
  exact ret_tmp (.inr rfl) Tryz.results51 rfl (.of_eq (by congr 1; symm; rw [decide_eq_false_iff_not]; intro e; subst e; simp at h10)) (.bool _) ⟨rfl, rfl⟩
 ·
  have hab : a.length = b.length := by simp at h10; omega
  refine mwp_skip <| mwp_seq <| mwp_seq <| qR rfl <| qA rfl rfl rfl <| qN <| mwp_block ?_
  refine mwp_loopK (α := Nat) [(0, _), (1, _)] (fun i => [(5, .int .i64 (i : Int))]) (fun i => []) (fun i => i ≤ a.length ∧ a.take i = b.take i) (fun i => a.length - i) (0) (.keep rfl (.keep rfl (.nil))) (.keep rfl (.nil)) (⟨by omega, rfl⟩) (rfl) ?_
  rintro i ⟨hi, heq⟩
  refine mwp_seq <| mwp_seq <| qR rfl <| qM rfl rfl rfl <| qM rfl rfl rfl <| qE rfl rfl Tryz.underlying44 rfl <| qC rfl rfl rfl rfl rfl <| qN ?_
  refine mwp_cond_split rfl (fun h14 => ?_) (fun h14 => ?_)
  ·
   have hlt : i < a.length := by simpa using h14
   obtain ⟨x, hs⟩ : ∃ q_, a[i]? = some q_ := ⟨_, List.getElem?_eq_getElem hlt⟩
   obtain ⟨y, hs2⟩ : ∃ s, b[i]? = some s := ⟨_, List.getElem?_eq_getElem (by omega)⟩
   refine mwp_skip <| mwp_seq <| mwp_block <| mwp_seq ?_
   refine mwp_draw [] [_] mo (by decide) rfl rfl rfl rfl ?_
   refine dO rfl rfl rfl (op_move rfl rfl ⟨rfl, rfl⟩) <| dO rfl rfl rfl (op_move rfl rfl ⟨rfl, rfl⟩) <| dO rfl rfl rfl (op_indexAddr rfl Tryz.underlying44 sz72 (by decide) rfl rfl rfl (get_map hs) ⟨rfl, rfl⟩) ?_
   refine dO rfl rfl rfl (op_load_sptr rfl rfl ta72 rfl ⟨rfl, rfl⟩) <| dO rfl rfl rfl (op_move rfl rfl ⟨rfl, rfl⟩) <| dO rfl rfl rfl (op_move rfl rfl ⟨rfl, rfl⟩) <| dO rfl rfl rfl (op_indexAddr rfl Tryz.underlying44 sz72 (by decide) rfl rfl rfl (get_map hs2) ⟨rfl, rfl⟩) ?_
   refine dO rfl rfl rfl (op_load_sptr rfl rfl ta72 rfl ⟨rfl, rfl⟩) <| dOps_op rfl rfl (.cons (op_eqstruct rfl (by kernel_rfl) rfl rfl rfl (.inr ⟨rfl, rfl⟩) ⟨rfl, rfl⟩) .nil) ?_
   refine dOps_nil ?_
   refine mwp_cond_split rfl (fun h25 => ?_) (fun h25 => ?_)
   ·
    refine mwp_seq <| qR rfl <| qA rfl rfl rfl <| qN <| mwp_ret ?_
    exact ret_tmp (.inr rfl) Tryz.results51 rfl (.of_eq (by congr 1; symm; rw [decide_eq_false_iff_not]; intro e; subst e; rw [hs2] at hs; injection hs with hs; subst hs; simp at h25)) (.bool _) ⟨rfl, rfl⟩
   ·
    refine mwp_skip <| qR rfl <| qM rfl rfl rfl <| qO rfl <| op_arith rfl rfl rfl rfl <| qA rfl rfl rfl <| qN ?_
    refine ⟨i + 1, by omega, ⟨by omega, ?_⟩, rfl, (.keep rfl (.keep rfl (.nil))), (.eq rfl (int_succ hlt hlen) (.nil))⟩
    rw [List.take_add_one, List.take_add_one, hs, hs2, heq]
    obtain ⟨x1, x2⟩ := x; obtain ⟨y1, y2⟩ := y
    simp at h25
    rw [h25.1, h25.2]
  ·
   have hge : i = a.length := by simp at h14; omega
   refine mwp_exit <| mwp_seq <| qR rfl <| qA rfl rfl rfl <| qN <| mwp_ret ?_
   exact ret_tmp (.inr rfl) Tryz.results51 rfl (.of_eq (by congr 1; symm; rw [decide_eq_true_iff]; rw [hge, List.take_length, hab, List.take_length] at heq; exact heq)) (.bool _) ⟨rfl, rfl⟩
end Go.Proofs.YtlooahbfpmigfaaGreat
end
section
set_option linter.unusedVariables false
set_option linter.unusedSimpArgs false
set_option maxRecDepth 20000
set_option maxHeartbeats 400000
namespace Go.Proofs.YtlooahbfpmigfaaGreat
open Go Go.MV
theorem valIs_spec (s : Sch) (x : Val) (hx : okV x) (S : MS) : MCalls Tryz.prog 49 [encS s, encV x] S fun v σ' => v = .bool (isF 16 s && isVF s x) ∧ σ' = S := by
 obtain ⟨k, ins⟩ := s
 obtain ⟨n, m, s, c, w⟩ := x
 refine mcalls_body Tryz.func49 rfl Tryz.ntmps49 (Nat.le_of_ble_eq_true rfl) ?_
 refine mwp_seq <| qR rfl <| qB rfl rfl rfl rfl rfl <| qB rfl rfl rfl rfl rfl <| qA rfl rfl rfl <| qN <| mwp_seq <| qR rfl <| qL rfl rfl rfl rfl ta37 rfl ?_
 refine wOps_op rfl (op_call rfl rfl rfl co55 ((Is_spec (.mk k ins) _).mono ?_))
 rintro _ _ ⟨rfl, rfl⟩
 refine qM rfl rfl rfl ?_
 refine wOps_case (fun h7 => ?_) (fun h7 => ?_)
 ·
  refine qL rfl rfl rfl rfl ta37 rfl <| qL rfl rfl rfl rfl ta29 rfl ?_
  refine wOps_op rfl (op_call rfl rfl rfl co76 ((isV_spec 16 (.mk k ins) h7 (.mk n m s c w) hx _).mono ?_))
  rintro _ _ ⟨rfl, rfl⟩
  refine qP rfl rfl rfl rfl <| qA rfl rfl rfl <| qN <| mwp_ret ?_
  exact ret_tmp (.inr rfl) Tryz.results49 rfl (.of_eq (by simp_all)) (.bool _) ⟨rfl, rfl⟩
 ·
  refine qS rfl <| qS rfl <| qS rfl <| qP rfl rfl rfl rfl <| qA rfl rfl rfl <| qN <| mwp_ret ?_
  exact ret_tmp (.inr rfl) Tryz.results49 rfl (.of_eq (by simp_all)) (.bool _) ⟨rfl, rfl⟩
theorem values_iter (l : List Val) (hlen : l.length ≤ maxLen) (bid l0 : Nat) : IterOk Tryz.prog 84 [] [.ref bid 0] (l.map fun x => [encV x]) (fun σ => (σ.length = l0 ∧ σ[bid]? = some (.cells [.lst none 5 (encVs l)])) ∧ ClS σ) := by
 refine iterOk_of fun id T m hok hm hyt hyf => ?_
 have hml : (l.map fun x => [encV x]).length = l.length := List.length_map ..
 refine mcalls_body Tryz.func84 rfl Tryz.ntmps84 (Nat.le_of_ble_eq_true rfl) ?_
 rw [List.append_nil]
 show mwp _ _ _ _ _ _ _ (([] : MS) ++ T 0)
 refine mwp_seq <| qR rfl <| qO rfl <| op_load_ref rfl rfl (hok _).1.2 ta27 rfl <| qE rfl rfl Tryz.underlying27 rfl <| qM rfl rfl rfl <| qN <| mwp_block ?_
 refine mwp_loopK (α := Nat × MS) [(0, _), (5, _), (6, _)] (fun x => [(7, .int .i64 (x.1 : Int))]) (fun x => T x.1 ++ x.2) (fun x => x.1 ≤ m) (fun x => l.length - x.1) (⟨0, []⟩) (.keep rfl (.keep rfl (.keep rfl (.nil)))) (.keep rfl (.nil)) (by simp) (by rw [List.append_nil]) ?_
 rintro ⟨j, J⟩ hj
 dsimp only at hj ⊢
 refine mwp_seq <| qR rfl <| qC rfl rfl rfl rfl rfl <| qN <| mwp_seq ?_
 refine mwp_cond_split rfl (fun h8 => ?_) (fun h8 => ?_)
 ·
  rw [encVs_length] at h8
  have hlt : j < l.length := by simpa using h8
  obtain ⟨⟨n1, m1, s1, c1, w1⟩, hs⟩ : ∃ x, l[j]? = some x := ⟨_, List.getElem?_eq_getElem hlt⟩
  have hy : (l.map fun x => [encV x])[j]? = some [encV (.mk n1 m1 s1 c1 w1)] := by rw [List.getElem?_map, hs]; rfl
  refine mwp_skip <| mwp_seq <| mwp_block <| mwp_seq <| qR rfl <| qO rfl <| op_indexAddr rfl Tryz.underlying27 sz29 (by decide) rfl rfl rfl (encVs_get hs) ?_
  refine qO rfl <| op_load_sptr rfl rfl ta29 rfl <| qO rfl <| op_alloc rfl zm29 <| qO rfl <| op_store_last rfl rfl rfl sz29 rfl rfl (Nat.le_of_ble_eq_true rfl) <| qN <| mwp_seq ?_
  rcases Nat.lt_or_eq_of_le hj with hjm | hjm
  ·
   refine qR rfl <| qM rfl rfl rfl <| qO rfl <| op_load_last rfl rfl ta29 rfl <| qO rfl <| (hyt j _ hjm hy).at2 rfl rfl rfl <| qO rfl <| op_not rfl rfl <| qN <| mwp_cond_f rfl (rfl) <| mwp_skip <| qR rfl <| qO rfl <| op_arith rfl rfl rfl rfl <| qM rfl rfl rfl <| qN ?_
   refine ⟨⟨j + 1, J ++ [_]⟩, by dsimp only; omega, by dsimp only; omega, List.append_assoc .., (.keep rfl (.keep rfl (.keep rfl (.nil)))), (.eq rfl (int_succ hlt hlen) (.nil))⟩
  ·
   refine qR rfl <| qM rfl rfl rfl <| qO rfl <| op_load_last rfl rfl ta29 rfl <| qO rfl <| (hyf j _ hjm hy).at2 rfl rfl rfl <| qO rfl <| op_not rfl rfl <| qN <| mwp_cond_t rfl (rfl) <| mwp_ret ?_
   rw [List.append_assoc]
   exact ret_noneS (S' := T (j + 1)) (by simp) Tryz.results84 (by rw [(hok _).1.1, (hok _).1.1]; exact Nat.le_refl _) (hok _).2 ⟨rfl, by rw [hjm, if_pos (by omega)]⟩
 ·
  rw [encVs_length] at h8
  have hge : j = l.length := by simp at h8; omega
  have hjm : j = m := by omega
  refine mwp_exit ?_
  exact ret_noneS (S' := T j) (by simp) Tryz.results84 (by rw [(hok _).1.1, (hok _).1.1]; exact Nat.le_refl _) (hok _).2 ⟨rfl, by rw [hjm, if_neg (by omega)]⟩
theorem values_spec (l : List Val) (S : MS) : MCalls Tryz.prog 57 [.lst none 5 (encVs l)] S fun v σ' => v = .fn (.func 84) [] [.ref S.length 0] ∧ σ' = S ++ [.cells [.lst none 5 (encVs l)]] := by
 refine mcalls_body Tryz.func57 rfl Tryz.ntmps57 (Nat.le_of_ble_eq_true rfl) ?_
 refine mwp_seq <| qR rfl <| qB rfl rfl rfl rfl rfl <| qA rfl rfl rfl <| qN <| mwp_seq <| qR rfl <| qO rfl <| op_makeFunc rfl rfl rfl <| qA rfl rfl rfl <| qN ?_
 refine mwp_facts fun hcv hcl => ?_
 refine mwp_ret ?_
 exact ret_tmpT (.inr rfl) Tryz.results57 rfl (.refl _) (hcv 2 _ rfl) (by simp) hcl ⟨rfl, rfl⟩
theorem xSame_spec (a b : List Bs) (S : MS) : MCalls Tryz.prog 50 [.lst none 1 (a.map encX), .lst none 1 (b.map encX)] S fun v σ' => v = .bool (decide (a = b)) ∧ σ' = S := by
 refine mcalls_body Tryz.func50 rfl Tryz.ntmps50 (Nat.le_of_ble_eq_true rfl) ?_
 refine mwp_len (t := 0) rfl fun hlen => ?_
 rw [List.length_map] at hlen
 refine mwp_seq <| qR rfl <| qA rfl rfl rfl <| qN <| mwp_seq <| mwp_seq <| qR rfl <| qM rfl rfl rfl <| qE rfl rfl Tryz.underlying25 rfl <| qM rfl rfl rfl <| qE rfl rfl Tryz.underlying25 rfl <| qC rfl rfl rfl rfl rfl <| qN ?_
 refine mwp_cond_split rfl (fun h10 => ?_) (fun h10 => ?_)
 ·
  refine mwp_seq <| qR rfl <| qA rfl rfl rfl <| qN <| mwp_ret ?_
  exact ret_tmp (.inr rfl) Tryz.results50 rfl (.of_eq (by congr 1; symm; rw [decide_eq_false_iff_not]; intro e; subst e; simp at h10)) (.bool _) ⟨rfl, rfl⟩
 ·
  have hab : a.length = b.length := by simp at h10; omega
  refine mwp_skip <| mwp_seq <| mwp_seq <| qR rfl <| qA rfl rfl rfl <| qN <| mwp_block ?_
  refine mwp_loopK (α := Nat) [(0, _), (1, _)] (fun i => [(5, .int .i64 (i : Int))]) (fun i => []) (fun i => i ≤ a.length ∧ a.take i = b.take i) (fun i => a.length - i) (0) (.keep rfl (.keep rfl (.nil))) (.keep rfl (.nil)) (⟨by omega, rfl⟩) (rfl) ?_
  rintro i ⟨hi, heq⟩
  refine mwp_seq <| mwp_seq <| qR rfl <| qM rfl rfl rfl <| qM rfl rfl rfl <| qE rfl rfl Tryz.underlying25 rfl <| qC rfl rfl rfl rfl rfl <| qN ?_
  refine mwp_cond_split rfl (fun h14 => ?_) (fun h14 => ?_)
  ·
   have hlt : i < a.length := by simpa using h14
   obtain ⟨x, hs⟩ : ∃ q_, a[i]? = some q_ := ⟨_, List.getElem?_eq_getElem hlt⟩
   obtain ⟨y, hs2⟩ : ∃ s, b[i]? = some s := ⟨_, List.getElem?_eq_getElem (by omega)⟩
   refine mwp_skip <| mwp_seq <| mwp_block <| mwp_seq ?_
   refine mwp_draw [] [_] mo (by decide) rfl rfl rfl rfl ?_
   refine dO rfl rfl rfl (op_move rfl rfl ⟨rfl, rfl⟩) <| dO rfl rfl rfl (op_move rfl rfl ⟨rfl, rfl⟩) <| dO rfl rfl rfl (op_indexAddr rfl Tryz.underlying25 sz9 (by decide) rfl rfl rfl (get_map hs) ⟨rfl, rfl⟩) ?_
   refine dO rfl rfl rfl (op_load_sptr rfl rfl ta9 rfl ⟨rfl, rfl⟩) <| dO rfl rfl rfl (op_move rfl rfl ⟨rfl, rfl⟩) <| dO rfl rfl rfl (op_move rfl rfl ⟨rfl, rfl⟩) <| dO rfl rfl rfl (op_indexAddr rfl Tryz.underlying25 sz9 (by decide) rfl rfl rfl (get_map hs2) ⟨rfl, rfl⟩) ?_
   refine dO rfl rfl rfl (op_load_sptr rfl rfl ta9 rfl ⟨rfl, rfl⟩) <| dO rfl rfl rfl (op_strcmp rfl rfl rfl rfl ⟨rfl, rfl⟩) <| dOps_nil ?_
   refine mwp_cond_split rfl (fun h25 => ?_) (fun h25 => ?_)
   ·
    refine mwp_seq <| qR rfl <| qA rfl rfl rfl <| qN <| mwp_ret ?_
    exact ret_tmp (.inr rfl) Tryz.results50 rfl (.of_eq (by congr 1; symm; rw [decide_eq_false_iff_not]; intro e; subst e; rw [hs2] at hs; injection hs with hs; subst hs; simp at h25)) (.bool _) ⟨rfl, rfl⟩
   ·
    refine mwp_skip <| qR rfl <| qM rfl rfl rfl <| qO rfl <| op_arith rfl rfl rfl rfl <| qA rfl rfl rfl <| qN ?_
    refine ⟨i + 1, by omega, ⟨by omega, ?_⟩, rfl, (.keep rfl (.keep rfl (.nil))), (.eq rfl (int_succ hlt hlen) (.nil))⟩
    rw [List.take_add_one, List.take_add_one, hs, hs2, heq]
    simp at h25
    rw [h25]
  ·
   have hge : i = a.length := by simp at h14; omega
   refine mwp_exit <| mwp_seq <| qR rfl <| qA rfl rfl rfl <| qN <| mwp_ret ?_
   exact ret_tmp (.inr rfl) Tryz.results50 rfl (.of_eq (by congr 1; symm; rw [decide_eq_true_iff]; rw [hge, List.take_length, hab, List.take_length] at heq; exact heq)) (.bool _) ⟨rfl, rfl⟩
theorem rvSame_spec (d : Nat) : ∀ (a b : Val), vdepth a ≤ d → ∀ S : MS, MCalls Tryz.prog 26 [encV a, encV b] S fun v σ' => v = .bool (decide (a = b)) ∧ σ' = S := by
 induction d with
 | zero => rintro ⟨n, m, s, c, w⟩ b h; simp [vdepth] at h
 | succ d ih =>
 rintro ⟨n, m, s, c, w⟩ ⟨n2, m2, s2, c2, w2⟩ hd S
 have hmem : ∀ x ∈ w, vdepth x ≤ d := fun x hx => by have := vdepth_mem hx; rw [vdepth] at hd; omega
 refine mcalls_body Tryz.func26 rfl Tryz.ntmps26 (Nat.le_of_ble_eq_true rfl) ?_
 refine mwp_seq <| qR rfl <| qB rfl rfl rfl rfl rfl <| qB rfl rfl rfl rfl rfl <| qA rfl rfl rfl <| qN <| mwp_seq <| mwp_seq <| qR rfl <| qF rfl rfl rfl fo29_0 <| qL rfl rfl rfl rfl ta24 rfl <| qF rfl rfl rfl fo29_0 <| qL rfl rfl rfl rfl ta24 rfl <| qC rfl rfl rfl rfl rfl <| qM rfl rfl rfl ?_
 refine wOps_case (fun h12 => ?_) (fun h12 => ?_)
 ·
  refine qS rfl <| qS rfl <| qS rfl <| qS rfl <| qS rfl <| qP rfl rfl rfl rfl <| qM rfl rfl rfl <| qS rfl <| qS rfl <| qS rfl <| qS rfl <| qS rfl <| qS rfl <| qP rfl rfl rfl rfl <| qM rfl rfl rfl <| qS rfl <| qS rfl <| qS rfl <| qS rfl <| qS rfl <| qS rfl <| qS rfl <| qP rfl rfl rfl rfl <| qM rfl rfl rfl ?_
  refine qS rfl <| qS rfl <| qS rfl <| qS rfl <| qS rfl <| qS rfl <| qS rfl <| qP rfl rfl rfl rfl <| qN <| mwp_cond_t rfl (rfl) <| mwp_seq <| qR rfl <| qA rfl rfl rfl <| qN <| mwp_ret ?_
  exact ret_tmp (.inr rfl) Tryz.results26 rfl (.of_eq (by congr 1; rw [Bool.eq_iff_iff]; simp_all <;> (intros; simp_all))) (.bool _) ⟨rfl, rfl⟩
 ·
  refine qF rfl rfl rfl fo29_1 <| qL rfl rfl rfl rfl ta24 rfl <| qF rfl rfl rfl fo29_1 <| qL rfl rfl rfl rfl ta24 rfl <| qC rfl rfl rfl rfl rfl <| qP rfl rfl rfl rfl <| qM rfl rfl rfl ?_
  refine wOps_case (fun h19 => ?_) (fun h19 => ?_)
  ·
   refine qS rfl <| qS rfl <| qS rfl <| qS rfl <| qS rfl <| qS rfl <| qP rfl rfl rfl rfl <| qM rfl rfl rfl <| qS rfl <| qS rfl <| qS rfl <| qS rfl <| qS rfl <| qS rfl <| qS rfl <| qP rfl rfl rfl rfl <| qM rfl rfl rfl <| qS rfl <| qS rfl <| qS rfl <| qS rfl <| qS rfl <| qS rfl <| qS rfl <| qP rfl rfl rfl rfl ?_
   refine qN <| mwp_cond_t rfl (rfl) <| mwp_seq <| qR rfl <| qA rfl rfl rfl <| qN <| mwp_ret ?_
   exact ret_tmp (.inr rfl) Tryz.results26 rfl (.of_eq (by congr 1; rw [Bool.eq_iff_iff]; simp_all <;> (intros; simp_all))) (.bool _) ⟨rfl, rfl⟩
  ·
   refine qF rfl rfl rfl fo29_2 <| qL rfl rfl rfl rfl ta25 rfl <| qF rfl rfl rfl fo29_2 <| qL rfl rfl rfl rfl ta25 rfl ?_
   refine wOps_op rfl (op_call rfl rfl rfl co50 ((xSame_spec s s2 _).mono ?_))
   rintro _ _ ⟨rfl, rfl⟩
   refine qO rfl <| op_not rfl rfl <| qP rfl rfl rfl rfl <| qM rfl rfl rfl ?_
   refine wOps_case (fun h27 => ?_) (fun h27 => ?_)
   ·
    refine qS rfl <| qS rfl <| qS rfl <| qS rfl <| qS rfl <| qS rfl <| qS rfl <| qP rfl rfl rfl rfl <| qM rfl rfl rfl <| qS rfl <| qS rfl <| qS rfl <| qS rfl <| qS rfl <| qS rfl <| qS rfl <| qP rfl rfl rfl rfl <| qN <| mwp_cond_t rfl (rfl) <| mwp_seq <| qR rfl <| qA rfl rfl rfl <| qN <| mwp_ret ?_
    exact ret_tmp (.inr rfl) Tryz.results26 rfl (.of_eq (by congr 1; rw [Bool.eq_iff_iff]; simp_all <;> (intros; simp_all))) (.bool _) ⟨rfl, rfl⟩
   ·
    refine qF rfl rfl rfl fo29_3 <| qL rfl rfl rfl rfl ta26 rfl <| qE rfl rfl Tryz.underlying26 rfl <| qF rfl rfl rfl fo29_3 <| qL rfl rfl rfl rfl ta26 rfl <| qE rfl rfl Tryz.underlying26 rfl <| qC rfl rfl rfl rfl rfl <| qP rfl rfl rfl rfl <| qM rfl rfl rfl ?_
    refine wOps_case (fun h36 => ?_) (fun h36 => ?_)
    ·
     have hcne : ¬ c = c2 := by intro e; subst e; simp at h36
     refine qS rfl <| qS rfl <| qS rfl <| qS rfl <| qS rfl <| qS rfl <| qS rfl <| qP rfl rfl rfl rfl <| qN <| mwp_cond_t rfl (rfl) <| mwp_seq <| qR rfl <| qA rfl rfl rfl <| qN <| mwp_ret ?_
     exact ret_tmp (.inr rfl) Tryz.results26 rfl (.of_eq (by congr 1; rw [Bool.eq_iff_iff]; simp_all <;> (intros; simp_all))) (.bool _) ⟨rfl, rfl⟩
    ·
     have hcc : c.length = c2.length := by rw [List.length_map, List.length_map] at h36; simp at h36; omega
     refine qF rfl rfl rfl fo29_4 <| qL rfl rfl rfl rfl ta27 rfl <| qE rfl rfl Tryz.underlying27 rfl <| qF rfl rfl rfl fo29_4 <| qL rfl rfl rfl rfl ta27 rfl <| qE rfl rfl Tryz.underlying27 rfl <| qC rfl rfl rfl rfl rfl <| qP rfl rfl rfl rfl <| qN ?_
     refine mwp_cond_split rfl (fun h44 => ?_) (fun h44 => ?_)
     ·
      have hwne : ¬ w = w2 := by intro e; subst e; simp at h44
      refine mwp_seq <| qR rfl <| qA rfl rfl rfl <| qN <| mwp_ret ?_
      exact ret_tmp (.inr rfl) Tryz.results26 rfl (.of_eq (by congr 1; rw [Bool.eq_iff_iff]; simp_all <;> (intros; simp_all))) (.bool _) ⟨rfl, rfl⟩
     ·
      have hww : w.length = w2.length := by rw [encVs_length, encVs_length] at h44; simp at h44; omega
      refine mwp_len (t := 29) rfl fun hlc => ?_
      refine mwp_len (t := 38) rfl fun hlw => ?_
      rw [List.length_map] at hlc
      rw [encVs_length] at hlw
      refine mwp_skip <| mwp_seq <| mwp_seq <| qR rfl <| qA rfl rfl rfl <| qN <| mwp_block ?_
      refine mwp_loopK (α := Nat) [(2, _), (3, _)] (fun i => [(5, .int .i64 (i : Int))]) (fun i => [.cells (encV (.mk n m s c w)).cells, .cells (encV (.mk n2 m2 s2 c2 w2)).cells]) (fun i => i ≤ c.length ∧ c.take i = c2.take i) (fun i => c.length - i) (0) (.keep rfl (.keep rfl (.nil))) (.keep rfl (.nil)) (⟨by omega, rfl⟩) (rfl) ?_
      rintro i ⟨hi, heq⟩
      refine mwp_seq <| mwp_seq <| qR rfl <| qM rfl rfl rfl <| qF rfl rfl rfl fo29_3 <| qL rfl rfl rfl rfl ta26 rfl <| qE rfl rfl Tryz.underlying26 rfl <| qC rfl rfl rfl rfl rfl <| qN ?_
      refine mwp_cond_split rfl (fun h49 => ?_) (fun h49 => ?_)
      ·
       have hlt : i < c.length := by simpa using h49
       obtain ⟨x, hs⟩ : ∃ q_, c[i]? = some q_ := ⟨_, List.getElem?_eq_getElem hlt⟩
       obtain ⟨y, hs2⟩ : ∃ s, c2[i]? = some s := ⟨_, List.getElem?_eq_getElem (by omega)⟩
       refine mwp_skip <| mwp_seq <| mwp_block <| mwp_seq ?_
       refine mwp_draw [] [_] mo (by decide) rfl rfl rfl rfl ?_
       refine dO rfl rfl rfl (op_fieldAddr_ref rfl rfl fo29_3 ⟨rfl, rfl⟩) <| dO rfl rfl rfl (op_load' rfl rfl rfl ta26 rfl ⟨rfl, rfl⟩) <| dO rfl rfl rfl (op_move rfl rfl ⟨rfl, rfl⟩) <| dO rfl rfl rfl (op_indexAddr rfl Tryz.underlying26 sz44 (by decide) rfl rfl rfl (get_map hs) ⟨rfl, rfl⟩) ?_
       refine dO rfl rfl rfl (op_load_sptr rfl rfl ta44 rfl ⟨rfl, rfl⟩) <| dO rfl rfl rfl (op_fieldAddr_ref rfl rfl fo29_3 ⟨rfl, rfl⟩) <| dO rfl rfl rfl (op_load' rfl rfl rfl ta26 rfl ⟨rfl, rfl⟩) <| dO rfl rfl rfl (op_move rfl rfl ⟨rfl, rfl⟩) <| dO rfl rfl rfl (op_indexAddr rfl Tryz.underlying26 sz44 (by decide) rfl rfl rfl (get_map hs2) ⟨rfl, rfl⟩) ?_
       refine dO rfl rfl rfl (op_load_sptr rfl rfl ta44 rfl ⟨rfl, rfl⟩) <| dOps_op rfl rfl (.cons (op_call rfl rfl rfl co51 (rSameC_spec x y _)) .nil) <| dO rfl rfl rfl (op_not rfl rfl ⟨rfl, rfl⟩) <| dOps_nil ?_
       refine mwp_cond_split rfl (fun h63 => ?_) (fun h63 => ?_)
       ·
        refine mwp_seq <| qR rfl <| qA rfl rfl rfl <| qN <| mwp_ret ?_
        exact ret_tmp (.inr rfl) Tryz.results26 rfl (.of_eq (by congr 1; symm; rw [decide_eq_false_iff_not]; intro e; injection e with e1 e2 e3 e4 e5; subst e4; rw [hs2] at hs; injection hs with hs; subst hs; simp at h63)) (.bool _) ⟨rfl, rfl⟩
       ·
        refine mwp_skip <| qR rfl <| qM rfl rfl rfl <| qO rfl <| op_arith rfl rfl rfl rfl <| qA rfl rfl rfl <| qN ?_
        refine ⟨i + 1, by omega, ⟨by omega, ?_⟩, rfl, (.keep rfl (.keep rfl (.nil))), (.eq rfl (int_succ hlt hlc) (.nil))⟩
        rw [List.take_add_one, List.take_add_one, hs, hs2, heq, not_dec h63]
      ·
       have hge : i = c.length := by simp at h49; omega
       rw [hge, List.take_length, hcc, List.take_length] at heq
       refine mwp_exit <| mwp_seq <| mwp_seq <| qR rfl <| qA rfl rfl rfl <| qN <| mwp_block ?_
       refine mwp_loopK (α := Nat) [(2, _), (3, _)] (fun k => [(6, .int .i64 (k : Int))]) (fun k => [.cells (encV (.mk n m s c w)).cells, .cells (encV (.mk n2 m2 s2 c2 w2)).cells]) (fun k => k ≤ w.length ∧ w.take k = w2.take k) (fun k => w.length - k) (0) (.keep rfl (.keep rfl (.nil))) (.keep rfl (.nil)) (⟨by omega, rfl⟩) (rfl) ?_
       rintro k ⟨hk, heq2⟩
       refine mwp_seq <| mwp_seq <| qR rfl <| qM rfl rfl rfl <| qF rfl rfl rfl fo29_4 <| qL rfl rfl rfl rfl ta27 rfl <| qE rfl rfl Tryz.underlying27 rfl <| qC rfl rfl rfl rfl rfl <| qN ?_
       refine mwp_cond_split rfl (fun h68 => ?_) (fun h68 => ?_)
       ·
        rw [encVs_length] at h68
        have hlt2 : k < w.length := by simpa using h68
        obtain ⟨⟨n3, m3, s3, c3, w3⟩, hs3⟩ : ∃ q, w[k]? = some q := ⟨_, List.getElem?_eq_getElem hlt2⟩
        obtain ⟨⟨n4, m4, s4, c4, w4⟩, hs4⟩ : ∃ q, w2[k]? = some q := ⟨_, List.getElem?_eq_getElem (by omega)⟩
        refine mwp_skip <| mwp_seq <| mwp_block <| mwp_seq ?_
        refine mwp_draw [] [_] mo (by decide) rfl rfl rfl rfl ?_
        refine dO rfl rfl rfl (op_fieldAddr_ref rfl rfl fo29_4 ⟨rfl, rfl⟩) <| dO rfl rfl rfl (op_load' rfl rfl rfl ta27 rfl ⟨rfl, rfl⟩) <| dO rfl rfl rfl (op_move rfl rfl ⟨rfl, rfl⟩) <| dO rfl rfl rfl (op_indexAddr rfl Tryz.underlying27 sz29 (by decide) rfl rfl rfl (encVs_get hs3) ⟨rfl, rfl⟩) ?_
        refine dO rfl rfl rfl (op_load_sptr rfl rfl ta29 rfl ⟨rfl, rfl⟩) <| dO rfl rfl rfl (op_fieldAddr_ref rfl rfl fo29_4 ⟨rfl, rfl⟩) <| dO rfl rfl rfl (op_load' rfl rfl rfl ta27 rfl ⟨rfl, rfl⟩) <| dO rfl rfl rfl (op_move rfl rfl ⟨rfl, rfl⟩) <| dO rfl rfl rfl (op_indexAddr rfl Tryz.underlying27 sz29 (by decide) rfl rfl rfl (encVs_get hs4) ⟨rfl, rfl⟩) ?_
        refine dO rfl rfl rfl (op_load_sptr rfl rfl ta29 rfl ⟨rfl, rfl⟩) <| dOps_op rfl rfl (.cons (op_call rfl rfl rfl co26 (ih (.mk n3 m3 s3 c3 w3) (.mk n4 m4 s4 c4 w4) (hmem _ (List.mem_of_getElem? hs3)) _)) .nil) <| dO rfl rfl rfl (op_not rfl rfl ⟨rfl, rfl⟩) <| dOps_nil ?_
        refine mwp_cond_split rfl (fun h82 => ?_) (fun h82 => ?_)
        ·
         refine mwp_seq <| qR rfl <| qA rfl rfl rfl <| qN <| mwp_ret ?_
         exact ret_tmp (.inr rfl) Tryz.results26 rfl (.of_eq (by congr 1; symm; rw [decide_eq_false_iff_not]; intro e; injection e with e1 e2 e3 e4 e5; subst e5; rw [hs4] at hs3; injection hs3 with hs3; rw [hs3] at h82; simp at h82)) (.bool _) ⟨rfl, rfl⟩
        ·
         refine mwp_skip <| qR rfl <| qM rfl rfl rfl <| qO rfl <| op_arith rfl rfl rfl rfl <| qA rfl rfl rfl <| qN ?_
         refine ⟨k + 1, by omega, ⟨by omega, ?_⟩, rfl, (.keep rfl (.keep rfl (.nil))), (.eq rfl (int_succ hlt2 hlw) (.nil))⟩
         rw [List.take_add_one, List.take_add_one, hs3, hs4, heq2, not_dec h82]
       ·
        rw [encVs_length] at h68
        have hge2 : k = w.length := by simp at h68; omega
        rw [hge2, List.take_length, hww, List.take_length] at heq2
        refine mwp_exit <| mwp_seq <| qR rfl <| qA rfl rfl rfl <| qN <| mwp_ret ?_
        exact ret_tmp (.inr rfl) Tryz.results26 rfl (.of_eq (by congr 1; rw [Bool.eq_iff_iff]; simp_all)) (.bool _) ⟨rfl, rfl⟩
theorem rSame_spec (a b : Val) (S : MS) : MCalls Tryz.prog 26 [encV a, encV b] S fun v σ' => v = .bool (decide (a = b)) ∧ σ' = S := rvSame_spec _ a b (Nat.le_refl _) S
end Go.Proofs.YtlooahbfpmigfaaGreat
end
section
set_option linter.unusedVariables false
set_option linter.unusedSimpArgs false
set_option maxRecDepth 20000
set_option maxHeartbeats 400000
namespace Go.Proofs.YtlooahbfpmigfaaGreat
open Go Go.MV
theorem goP_snoc {F : Sch → Val → Val → Option Val} : ∀ {ins : List Sch} {w1 w2 : List Val} {i : Nat} {acc : List Val} {s : Sch} {x y v : Val}, goP ((ins.take i).map F) w1 w2 = some acc → ins[i]? = some s → w1[i]? = some x → w2[i]? = some y → F s x y = some v → goP ((ins.take (i + 1)).map F) w1 w2 = some (acc ++ [v])
 | [], _, _, _, _, _, _, _, _, _, h, _, _, _ => by simp at h
 | _ :: _, [], _, _, _, _, _, _, _, _, _, h, _, _ => by simp at h
 | _ :: _, _ :: _, [], _, _, _, _, _, _, _, _, _, h, _ => by simp at h
 | s0 :: ins, x0 :: w1, y0 :: w2, 0, acc, s, x, y, v, h, hs, hx, hy, hv => by
  simp only [List.getElem?_cons_zero, Option.some.injEq] at hs hx hy
  subst hs hx hy
  simp [goP] at h
  subst h
  simp [goP, hv]
 | s0 :: ins, x0 :: w1, y0 :: w2, i + 1, acc, s, x, y, v, h, hs, hx, hy, hv => by
  simp only [List.getElem?_cons_succ] at hs hx hy
  rw [List.take_succ_cons, List.map_cons, goP] at h ⊢
  cases hF : F s0 x0 y0 with
  | none => rw [hF] at h; cases h
  | some u =>
   rw [hF] at h
   cases hg : goP ((ins.take i).map F) w1 w2 with
   | none => rw [hg] at h; cases h
   | some l =>
    rw [hg] at h
    simp at h
    subst h
    dsimp only
    rw [goP_snoc hg hs hx hy hv]
    rfl
theorem goP_bad {F : Sch → Val → Val → Option Val} : ∀ {ins : List Sch} {w1 w2 : List Val} {i : Nat} {s : Sch} {x y : Val}, ins[i]? = some s → w1[i]? = some x → w2[i]? = some y → F s x y = none → goP (ins.map F) w1 w2 = none
 | [], _, _, _, _, _, _, h, _, _, _ => by simp at h
 | _ :: _, [], _, _, _, _, _, _, h, _, _ => by simp at h
 | _ :: _, _ :: _, [], _, _, _, _, _, _, h, _ => by simp at h
 | s0 :: ins, x0 :: w1, y0 :: w2, 0, s, x, y, hs, hx, hy, hv => by
  simp only [List.getElem?_cons_zero, Option.some.injEq] at hs hx hy
  subst hs hx hy
  simp [goP, hv]
 | s0 :: ins, x0 :: w1, y0 :: w2, i + 1, s, x, y, hs, hx, hy, hv => by
  simp only [List.getElem?_cons_succ] at hs hx hy
  rw [List.map_cons, goP, goP_bad hs hx hy hv]
  cases F s0 x0 y0 <;> rfl
theorem goP_len {fs : List (Val → Val → Option Val)} : ∀ {w1 w2 : List Val} {l : List Val}, goP fs w1 w2 = some l → l.length ≤ fs.length := by
 induction fs with
 | nil => intro w1 w2 l h; simp [goP] at h; subst h; simp
 | cons f fs ih =>
  intro w1 w2 l h
  cases w1 with
  | nil => simp [goP] at h; subst h; simp
  | cons x w1 =>
   cases w2 with
   | nil => simp [goP] at h; subst h; simp
   | cons y w2 =>
    rw [goP] at h
    cases hf : f x y with
    | none => rw [hf] at h; cases h
    | some v =>
     rw [hf] at h
     cases hg : goP fs w1 w2 with
     | none => rw [hg] at h; cases h
     | some q => rw [hg] at h; simp at h; subst h; have := ih hg; simp; omega
theorem cl_outV {acc : List Val} {t n : Nat} (ht : t < n) : (MObj.cells [.int .u64 0, .int .u64 0, .lst0, .lst0, .lst (some t) 5 (encVs acc)]).cl n := by
 intro x hx
 simp only [List.mem_cons, List.not_mem_nil, or_false] at hx
 rcases hx with rfl | rfl | rfl | rfl | rfl
 ·exact .int _ _
 ·exact .int _ _
 ·exact .lst0
 ·exact .lst0
 ·rw [encVs_eq]; exact cl_lstT ht (fun v => cl_encV n v) (fun v => by cases v; exact .inl rfl)
theorem cap_t {v : Val} (h : largeF v = true) : capF (some v) = none := by simp [capF, h]
theorem cap_f {v : Val} (h : largeF v = false) : capF (some v) = some v := by simp [capF, h]
theorem pairs_specJ (k : Int) (ins : List Sch) (hil : ins.length ≤ 40) (f : Sch → Val → Val → Option Val) (n1 m1 : Int) (s1 : List Bs) (c1 : List (List Tk)) (w1 : List Val) (n2 m2 : Int) (s2 : List Bs) (c2 : List (List Tk)) (w2 : List Val) (hl1 : w1.length = ins.length) (hl2 : w2.length = ins.length) (hb : ∀ (i : Nat) (s : Sch) (x y : Val), ins[i]? = some s → w1[i]? = some x → w2[i]? = some y → ∀ S : MS, MCalls Tryz.prog 68 [encS s, encV x, encV y] S fun v σ' => v = encO (f s x y) ∧ σ' = S) (S : MS) : MCalls Tryz.prog 99 [encS (.mk k ins), encV (.mk n1 m1 s1 c1 w1), encV (.mk n2 m2 s2 c2 w2)] S fun v σ' => v = encO (pairF2 (ins.map f) (.mk n1 m1 s1 c1 w1) (.mk n2 m2 s2 c2 w2)) ∧ σ' = S := by
 refine mcalls_body Tryz.func99 rfl Tryz.ntmps99 (Nat.le_of_ble_eq_true rfl) ?_
 have hlen : ins.length ≤ maxLen := by simp only [maxLen]; omega
 refine mwp_seq <| qR rfl <| qB rfl rfl rfl rfl rfl <| qB rfl rfl rfl rfl rfl <| qB rfl rfl rfl rfl rfl <| qO rfl <| op_alloc' rfl zm29 rfl rfl <| qA rfl rfl rfl <| qN <| mwp_seq <| qR rfl <| qO rfl <| op_alloc' rfl zm29 rfl rfl <| qN <| mwp_seq <| mwp_seq <| qR rfl <| qF rfl rfl rfl fo37_1 <| qL rfl rfl rfl rfl ta35 rfl <| qE rfl rfl Tryz.underlying35 rfl <| qM rfl rfl rfl <| qN ?_
 refine mwp_block <| mwp_cellrowAt 4 4 29 5 rfl rfl (Nat.le_refl _) rfl rfl ?_
 refine mwp_loopKJ (α := Nat × List Val) [(4, _), (5, _), (6, _), (8, _), (14, _), (15, _)] (fun x => [(16, .int .i64 (x.1 : Int))]) (fun x => [.cells (encS (.mk k ins)).cells, .cells (encV (.mk n1 m1 s1 c1 w1)).cells, .cells (encV (.mk n2 m2 s2 c2 w2)).cells, .cells [.int .u64 0, .int .u64 0, .lst0, .lst0, .lst0], .cells [.int .u64 0, .int .u64 0, .lst0, .lst0, .lst (some (S.length + 5)) 5 (encVs x.2)], .row 29 5 x.2.length]) (fun x => x.1 ≤ ins.length ∧ goP ((ins.take x.1).map f) w1 w2 = some x.2) (fun x => ins.length - x.1) (⟨0, []⟩) (Nat.le_refl _) (.keep rfl (.keep rfl (.keep rfl (.keep rfl (.keep rfl (.keep rfl (.nil))))))) (.keep rfl (.nil)) (⟨by simp, by simp [goP]⟩) (rfl) ?_
 rintro ⟨i, acc⟩ ⟨hi, he⟩
 dsimp only at hi he ⊢
 have hal : acc.length ≤ 1000 := by have h1 := goP_len he; rw [List.length_map, List.length_take] at h1; omega
 refine mwp_seq <| qR rfl <| qC rfl rfl rfl rfl rfl <| qN <| mwp_seq ?_
 refine mwp_cond_split rfl (fun h17 => ?_) (fun h17 => ?_)
 ·
  rw [encSs_length] at h17
  have hlt : i < ins.length := by simpa using h17
  obtain ⟨⟨k1, i1⟩, hs⟩ : ∃ q, ins[i]? = some q := ⟨_, List.getElem?_eq_getElem hlt⟩
  obtain ⟨x, hx⟩ : ∃ q, w1[i]? = some q := ⟨_, List.getElem?_eq_getElem (by omega)⟩
  obtain ⟨y, hy⟩ : ∃ q, w2[i]? = some q := ⟨_, List.getElem?_eq_getElem (by omega)⟩
  obtain ⟨xn, xm, xs, xc, xw⟩ := x
  obtain ⟨yn, ym, ys, yc, yw⟩ := y
  refine mwp_skip <| mwp_seq <| mwp_block <| mwp_seq <| qR rfl <| qM rfl rfl rfl <| qO rfl <| op_indexAddr rfl Tryz.underlying35 sz37 (by decide) rfl rfl rfl (encSs_get hs) ?_
  refine qO rfl <| op_load_sptr rfl rfl ta37 rfl <| qO rfl <| op_alloc' rfl zm37 rfl rfl <| qA rfl rfl rfl <| qO rfl <| op_store' rfl rfl rfl rfl sz37 rfl rfl (Nat.le_of_ble_eq_true rfl) rfl <| qN <| mwp_seq ?_
  have hof := hb i _ _ _ hs hx hy
  rcases hf : f (.mk k1 i1) (.mk xn xm xs xc xw) (.mk yn ym ys yc yw) with _ | ⟨⟨n3, m3, s3, c3, w3⟩⟩ <;> rw [hf] at hof
  ·
   refine mwp_draw [15, 16] [_, S ++ [.cells (encS (.mk k ins)).cells, .cells (encV (.mk n1 m1 s1 c1 w1)).cells, .cells (encV (.mk n2 m2 s2 c2 w2)).cells, .cells [.int .u64 0, .int .u64 0, .lst0, .lst0, .lst0], .cells [.int .u64 0, .int .u64 0, .lst0, .lst0, .lst (some (S.length + 5)) 5 ((encVs acc))], .row 29 5 acc.length, .cells (encS (.mk k1 i1)).cells, .cells [.int .u64 0, .int .u64 0, .lst0, .lst0, .lst0]], S ++ [.cells (encS (.mk k ins)).cells, .cells (encV (.mk n1 m1 s1 c1 w1)).cells, .cells (encV (.mk n2 m2 s2 c2 w2)).cells, .cells [.int .u64 0, .int .u64 0, .lst0, .lst0, .lst0], .cells [.int .u64 0, .int .u64 0, .lst0, .lst0, .lst (some (S.length + 5)) 5 ((encVs acc))], .row 29 5 acc.length, .cells (encS (.mk k1 i1)).cells, .cells (encV noV).cells]] mo (by decide) rfl rfl rfl rfl ?_
   refine dOps_op rfl rfl (.cons (op_load' rfl rfl rfl ta37 rfl ⟨rfl, rfl⟩) (.cons (op_load' rfl rfl rfl ta37 rfl ⟨rfl, rfl⟩) (.nil))) <| dOps_op rfl rfl (.cons (op_fieldAddr_ref rfl rfl fo29_4 ⟨rfl, rfl⟩) (.cons (op_fieldAddr_ref rfl rfl fo29_4 ⟨rfl, rfl⟩) (.nil))) <| dOps_op rfl rfl (.cons (op_load' rfl rfl rfl ta27 rfl ⟨rfl, rfl⟩) (.cons (op_load' rfl rfl rfl ta27 rfl ⟨rfl, rfl⟩) (.nil))) <| dOps_op rfl rfl (.cons (op_move rfl rfl ⟨rfl, rfl⟩) (.cons (op_move rfl rfl ⟨rfl, rfl⟩) (.nil))) <| dOps_op rfl rfl (.cons (op_indexAddr rfl Tryz.underlying27 sz29 (by decide) rfl rfl rfl (encVs_get hx) ⟨rfl, rfl⟩) (.cons (op_indexAddr rfl Tryz.underlying27 sz29 (by decide) rfl rfl rfl (encVs_get hx) ⟨rfl, rfl⟩) (.nil))) ?_
   refine dOps_op rfl rfl (.cons (op_load_sptr rfl rfl ta29 rfl ⟨rfl, rfl⟩) (.cons (op_load_sptr rfl rfl ta29 rfl ⟨rfl, rfl⟩) (.nil))) <| dOps_op rfl rfl (.cons (op_fieldAddr_ref rfl rfl fo29_4 ⟨rfl, rfl⟩) (.cons (op_fieldAddr_ref rfl rfl fo29_4 ⟨rfl, rfl⟩) (.nil))) <| dOps_op rfl rfl (.cons (op_load' rfl rfl rfl ta27 rfl ⟨rfl, rfl⟩) (.cons (op_load' rfl rfl rfl ta27 rfl ⟨rfl, rfl⟩) (.nil))) <| dOps_op rfl rfl (.cons (op_move rfl rfl ⟨rfl, rfl⟩) (.cons (op_move rfl rfl ⟨rfl, rfl⟩) (.nil))) <| dOps_op rfl rfl (.cons (op_indexAddr rfl Tryz.underlying27 sz29 (by decide) rfl rfl rfl (encVs_get hy) ⟨rfl, rfl⟩) (.cons (op_indexAddr rfl Tryz.underlying27 sz29 (by decide) rfl rfl rfl (encVs_get hy) ⟨rfl, rfl⟩) (.nil))) ?_
   refine dOps_op rfl rfl (.cons (op_load_sptr rfl rfl ta29 rfl ⟨rfl, rfl⟩) (.cons (op_load_sptr rfl rfl ta29 rfl ⟨rfl, rfl⟩) (.nil))) <| dOps_op rfl rfl (.cons (op_call rfl rfl rfl co68 (hof _)) (.cons (op_call rfl rfl rfl co68 (hof _)) (.nil))) <| dOps_op rfl rfl (.cons (op_move rfl rfl ⟨rfl, rfl⟩) (.cons (op_move rfl rfl ⟨rfl, rfl⟩) (.nil))) <| dOps_op rfl rfl (.cons (op_extract rfl rfl rfl ⟨rfl, rfl⟩) (.cons (op_extract rfl rfl rfl ⟨rfl, rfl⟩) (.nil))) <| dOps_op rfl rfl (.cons (op_extract rfl rfl rfl ⟨rfl, rfl⟩) (.cons (op_extract rfl rfl rfl ⟨rfl, rfl⟩) (.cons (op_extract rfl rfl rfl ⟨rfl, rfl⟩) (.nil)))) <| dOps_eff rfl rfl rfl rfl (op_alloc' rfl zm29 rfl rfl ⟨rfl, rfl⟩) <| dOps_eff rfl rfl rfl rfl (op_store' rfl rfl rfl rfl sz29 rfl rfl (Nat.le_of_ble_eq_true rfl) rfl ⟨rfl, rfl⟩) <| dO rfl rfl rfl (op_assign rfl rfl ⟨rfl, rfl⟩) <| dOps_nil <| mwp_seq <| mwp_seq <| qR rfl <| qM rfl rfl rfl <| qO rfl <| op_ifnil rfl Tryz.underlying32 rfl rfl (.inr ⟨rfl, rfl⟩) <| qN <| mwp_cond_t rfl (rfl) <| mwp_seq <| qR rfl <| qO rfl <| op_build rfl Tryz.underlying29 zm29 .nil (by kernel_rfl) ?_
   refine qM rfl rfl rfl <| qO rfl <| op_store' rfl rfl rfl rfl sz29 rfl rfl (Nat.le_of_ble_eq_true rfl) rfl <| qA rfl rfl rfl <| qN <| mwp_ret ?_
   exact ret_cell_tmp (.inr rfl) Tryz.results99 rfl rfl ta29 rfl (.agg (.cons (.refl _) (.cons (.refl _) (.cons (.nil 1) (.cons (.nil 1) (.cons (.nil 5) .nil)))))) (cl_encV _ (noV)) rfl (.refl _) (.iface _ _ (.int _ _)) ⟨by rw [show pairF2 (ins.map f) (.mk n1 m1 s1 c1 w1) (.mk n2 m2 s2 c2 w2) = none from by rw [pairF2]; show (goP (ins.map f) w1 w2).map _ = none; rw [goP_bad hs hx hy hf]; rfl]; rfl, rfl⟩
  ·
   refine mwp_draw [15, 16] [_, S ++ [.cells (encS (.mk k ins)).cells, .cells (encV (.mk n1 m1 s1 c1 w1)).cells, .cells (encV (.mk n2 m2 s2 c2 w2)).cells, .cells [.int .u64 0, .int .u64 0, .lst0, .lst0, .lst0], .cells [.int .u64 0, .int .u64 0, .lst0, .lst0, .lst (some (S.length + 5)) 5 ((encVs acc))], .row 29 5 acc.length, .cells (encS (.mk k1 i1)).cells, .cells [.int .u64 0, .int .u64 0, .lst0, .lst0, .lst0]], S ++ [.cells (encS (.mk k ins)).cells, .cells (encV (.mk n1 m1 s1 c1 w1)).cells, .cells (encV (.mk n2 m2 s2 c2 w2)).cells, .cells [.int .u64 0, .int .u64 0, .lst0, .lst0, .lst0], .cells [.int .u64 0, .int .u64 0, .lst0, .lst0, .lst (some (S.length + 5)) 5 ((encVs acc))], .row 29 5 acc.length, .cells (encS (.mk k1 i1)).cells, .cells (encV (.mk n3 m3 s3 c3 w3)).cells]] mo (by decide) rfl rfl rfl rfl ?_
   refine dOps_op rfl rfl (.cons (op_load' rfl rfl rfl ta37 rfl ⟨rfl, rfl⟩) (.cons (op_load' rfl rfl rfl ta37 rfl ⟨rfl, rfl⟩) (.nil))) <| dOps_op rfl rfl (.cons (op_fieldAddr_ref rfl rfl fo29_4 ⟨rfl, rfl⟩) (.cons (op_fieldAddr_ref rfl rfl fo29_4 ⟨rfl, rfl⟩) (.nil))) <| dOps_op rfl rfl (.cons (op_load' rfl rfl rfl ta27 rfl ⟨rfl, rfl⟩) (.cons (op_load' rfl rfl rfl ta27 rfl ⟨rfl, rfl⟩) (.nil))) <| dOps_op rfl rfl (.cons (op_move rfl rfl ⟨rfl, rfl⟩) (.cons (op_move rfl rfl ⟨rfl, rfl⟩) (.nil))) <| dOps_op rfl rfl (.cons (op_indexAddr rfl Tryz.underlying27 sz29 (by decide) rfl rfl rfl (encVs_get hx) ⟨rfl, rfl⟩) (.cons (op_indexAddr rfl Tryz.underlying27 sz29 (by decide) rfl rfl rfl (encVs_get hx) ⟨rfl, rfl⟩) (.nil))) ?_
   refine dOps_op rfl rfl (.cons (op_load_sptr rfl rfl ta29 rfl ⟨rfl, rfl⟩) (.cons (op_load_sptr rfl rfl ta29 rfl ⟨rfl, rfl⟩) (.nil))) <| dOps_op rfl rfl (.cons (op_fieldAddr_ref rfl rfl fo29_4 ⟨rfl, rfl⟩) (.cons (op_fieldAddr_ref rfl rfl fo29_4 ⟨rfl, rfl⟩) (.nil))) <| dOps_op rfl rfl (.cons (op_load' rfl rfl rfl ta27 rfl ⟨rfl, rfl⟩) (.cons (op_load' rfl rfl rfl ta27 rfl ⟨rfl, rfl⟩) (.nil))) <| dOps_op rfl rfl (.cons (op_move rfl rfl ⟨rfl, rfl⟩) (.cons (op_move rfl rfl ⟨rfl, rfl⟩) (.nil))) <| dOps_op rfl rfl (.cons (op_indexAddr rfl Tryz.underlying27 sz29 (by decide) rfl rfl rfl (encVs_get hy) ⟨rfl, rfl⟩) (.cons (op_indexAddr rfl Tryz.underlying27 sz29 (by decide) rfl rfl rfl (encVs_get hy) ⟨rfl, rfl⟩) (.nil))) ?_
   refine dOps_op rfl rfl (.cons (op_load_sptr rfl rfl ta29 rfl ⟨rfl, rfl⟩) (.cons (op_load_sptr rfl rfl ta29 rfl ⟨rfl, rfl⟩) (.nil))) <| dOps_op rfl rfl (.cons (op_call rfl rfl rfl co68 (hof _)) (.cons (op_call rfl rfl rfl co68 (hof _)) (.nil))) <| dOps_op rfl rfl (.cons (op_move rfl rfl ⟨rfl, rfl⟩) (.cons (op_move rfl rfl ⟨rfl, rfl⟩) (.nil))) <| dOps_op rfl rfl (.cons (op_extract rfl rfl rfl ⟨rfl, rfl⟩) (.cons (op_extract rfl rfl rfl ⟨rfl, rfl⟩) (.nil))) <| dOps_op rfl rfl (.cons (op_extract rfl rfl rfl ⟨rfl, rfl⟩) (.cons (op_extract rfl rfl rfl ⟨rfl, rfl⟩) (.cons (op_extract rfl rfl rfl ⟨rfl, rfl⟩) (.nil)))) <| dOps_eff rfl rfl rfl rfl (op_alloc' rfl zm29 rfl rfl ⟨rfl, rfl⟩) <| dOps_eff rfl rfl rfl rfl (op_store' rfl rfl rfl rfl sz29 rfl rfl (Nat.le_of_ble_eq_true rfl) rfl ⟨rfl, rfl⟩) <| dO rfl rfl rfl (op_assign rfl rfl ⟨rfl, rfl⟩) <| dOps_nil <| mwp_seq <| mwp_seq <| qR rfl <| qM rfl rfl rfl <| qO rfl <| op_if0 rfl Tryz.underlying32 rfl rfl (.inr ⟨rfl, rfl⟩) <| qN <| mwp_cond_f rfl (rfl) <| mwp_skip <| qR rfl <| qF rfl rfl rfl fo29_4 <| qL rfl rfl rfl rfl ta27 rfl <| qL rfl rfl rfl rfl ta29 rfl <| qO rfl <| op_buildSlice rfl Tryz.underlying27 el29 rfl rfl (by decide) (by decide) rfl rfl ?_
   refine qO rfl <| op_append' rfl Tryz.underlying27 el29 rfl rfl rfl (by simp [encVs_length]) (by simp [encVs_length]; omega) (by simp [encVs_length]; omega) rfl ?_
   refine qF rfl rfl rfl fo29_4 <| qO rfl <| op_store' rfl rfl rfl rfl sz27 rfl rfl (Nat.le_of_ble_eq_true rfl) rfl <| qN <| qR rfl <| qO rfl <| op_arith rfl rfl rfl rfl <| qM rfl rfl rfl <| qN ?_
   refine ⟨⟨i + 1, acc ++ [.mk n3 m3 s3 c3 w3]⟩, _, by dsimp only; omega, ⟨by dsimp only; omega, goP_snoc he hs hx hy hf⟩, by simp only [encVs_append, List.length_append]; rfl, .same (.same (.same (.same (.new (cl_outV (by simp)) (.new trivial .nil))))), (.old rfl rfl (.old rfl rfl (.old rfl rfl (.old rfl rfl (.old rfl rfl (.old rfl rfl (.nil))))))), (.new' rfl (int_succ hlt hlen) (.int _ _) (.nil))⟩
 ·
  rw [encSs_length] at h17
  have hge : i = ins.length := by simp at h17; omega
  refine mwp_exit <| mwp_seq <| qR rfl <| qL rfl rfl rfl rfl ta29 rfl <| qO rfl <| op_store' rfl rfl rfl rfl sz29 rfl rfl (Nat.le_of_ble_eq_true rfl) rfl <| qA rfl rfl rfl <| qN <| mwp_ret ?_
  exact ret_cell_tmp (.inr rfl) Tryz.results99 rfl rfl ta29 rfl (.agg (.cons (.refl _) (.cons (.refl _) (.cons (.nil 1) (.cons (.nil 1) (.cons (.view _ _ _) .nil)))))) (cl_encV _ (.mk 0 0 [] [] acc)) rfl (.refl _) (.iface0) ⟨by rw [show pairF2 (ins.map f) (.mk n1 m1 s1 c1 w1) (.mk n2 m2 s2 c2 w2) = some _ from by rw [pairF2]; show (goP (ins.map f) w1 w2).map _ = _; rw [hge, List.take_length] at he; rw [he]; rfl]; rfl, rfl⟩
end Go.Proofs.YtlooahbfpmigfaaGreat
end
section
set_option linter.unusedVariables false
set_option linter.unusedSimpArgs false
set_option maxRecDepth 20000
set_option maxHeartbeats 400000
namespace Go.Proofs.YtlooahbfpmigfaaGreat
open Go Go.MV
theorem max_if (a b : Int) : (if b > a then b else a) = max a b := by split <;> omega
theorem isV3 {ins : List Sch} {n m : Int} {s : List Bs} {c : List (List Tk)} {w : List Val} (h : isVF (.mk 3 ins) (.mk n m s c w) = true) : s.length ≤ 40 := by
 rw [isVF_mk 3] at h; simp [isRowF] at h; omega
theorem isV4 {t : Sch} {n m : Int} {s : List Bs} {c : List (List Tk)} {w : List Val} (h : isVF (.mk 4 [t]) (.mk n m s c w) = true) : s.length ≤ 40 ∧ s.length = w.length ∧ ∀ x ∈ w, isVF t x = true := by
 rw [isVF_mk 4] at h
 simp only [Int.reduceEq, if_false, if_true, isVL, List.headD_cons, Bool.and_eq_true, decide_eq_true_eq, List.all_eq_true, isRowF] at h
 exact ⟨h.2.1.1.1.1, h.2.1.2, fun x hx => (h.2.2 x hx).1⟩
theorem isV5 {t u : Sch} {n m : Int} {s : List Bs} {c : List (List Tk)} {w : List Val} (h : isVF (.mk 5 [t, u]) (.mk n m s c w) = true) : ∃ x y, w = [x, y] ∧ isVF t x = true ∧ isVF u y = true := by
 rw [isVF_mk 5] at h
 match w, h with
 | [], h => simp at h
 | [_], h => simp at h
 | [x, y], h => exact ⟨x, y, rfl, by simp [isVL] at h; exact h.2⟩
 | _ :: _ :: _ :: _, h => simp at h
theorem isV7 {ins : List Sch} {n m : Int} {s : List Bs} {c : List (List Tk)} {w : List Val} (h : isVF (.mk 7 ins) (.mk n m s c w) = true) : ∀ x ∈ c, x.length ≤ 40 := by
 rw [isVF_mk 7] at h
 match c, h with
 | [], _ => simp
 | [x], h => simp [isClockF] at h; simp; omega
 | _ :: _ :: _, h => simp at h
theorem isV8 {t : Sch} {n m : Int} {s : List Bs} {c : List (List Tk)} {w : List Val} (h : isVF (.mk 8 [t]) (.mk n m s c w) = true) : c.length ≤ 40 ∧ c.length = w.length ∧ (∀ x ∈ c, x.length ≤ 40) ∧ ∀ x ∈ w, isVF t x = true := by
 rw [isVF_mk 8] at h
 simp only [Int.reduceEq, if_false, isVL, List.headD_cons, Bool.and_eq_true, decide_eq_true_eq, List.all_eq_true, isCauseF, isClockF] at h
 refine ⟨h.1.2, h.2.1.1, fun x hx => ?_, fun x hx => h.2.2 x hx⟩
 have := h.2.1.2.1 x hx
 omega
theorem both_spec (d : Nat) : ∀ (t : Sch), isF d t = true → ∀ (a b : Val), isVF t a = true → isVF t b = true → ∀ S : MS, MCalls Tryz.prog 68 [encS t, encV a, encV b] S fun v σ' => v = encO (bothF t a b) ∧ σ' = S := by
 induction d with
 | zero => intro s h; simp [isF] at h
 | succ d ih =>
 rintro ⟨k, ins⟩ hd ⟨n1, m1, s1, c1, w1⟩ ⟨n2, m2, s2, c2, w2⟩ ha hb S
 rw [isF] at hd
 simp only [Bool.and_eq_true, List.all_eq_true, beq_iff_eq] at hd
 rcases k8_of hd.1 with rfl | rfl | rfl | rfl | rfl | rfl | rfl | rfl
 ·
  have hB : bothB 1 (bothL ins) (.mk n1 m1 s1 c1 w1) (.mk n2 m2 s2 c2 w2) = some (.mk (max n1 n2) 0 [] [] []) := rfl
  refine mcalls_body Tryz.func68 rfl Tryz.ntmps68 (Nat.le_of_ble_eq_true rfl) ?_
  refine mwp_seq <| qR rfl <| qB rfl rfl rfl rfl rfl <| qB rfl rfl rfl rfl rfl <| qB rfl rfl rfl rfl rfl <| qO rfl <| op_alloc' rfl zm29 rfl rfl <| qA rfl rfl rfl <| qN <| mwp_seq <| mwp_seq <| qR rfl <| qF rfl rfl rfl fo37_0 <| qL rfl rfl rfl rfl ta3 rfl <| qN <| mwp_block <| mwp_seq <| mwp_seq <| qR rfl <| qC rfl rfl rfl rfl rfl <| qA rfl rfl rfl <| qN ?_
  refine mwp_cond_t rfl (rfl) <| mwp_skip <| mwp_cond_t rfl (rfl) <| qR rfl <| qF rfl rfl rfl fo29_0 <| qL rfl rfl rfl rfl ta24 rfl <| qF rfl rfl rfl fo29_0 <| qL rfl rfl rfl rfl ta24 rfl <| qO rfl <| op_max2' rfl rfl rfl (max_if n1 n2) <| qF rfl rfl rfl fo29_0 <| qO rfl <| op_store' rfl rfl rfl rfl sz24 rfl rfl (Nat.le_of_ble_eq_true rfl) rfl <| qN <| mwp_seq <| mwp_seq <| qR rfl <| qM rfl rfl rfl <| qO rfl <| op_if0 rfl Tryz.underlying32 rfl rfl (.inl ⟨rfl, rfl⟩) <| qM rfl rfl rfl <| qO rfl <| op_viewTo (y := encV (.mk (max n1 n2) 0 [] [] [])) (op_load' rfl rfl rfl ta29 rfl ⟨rfl, rfl⟩) (.agg (.cons (.refl _) (.cons (.refl _) (.cons (.nil 1) (.cons (.nil 1) (.cons (.nil 5) .nil)))))) ?_
  refine wOps_op rfl (op_call rfl rfl rfl co103 ((isLarge_spec (max n1 n2) 0 [] [] [] _).mono ?_))
  rintro _ _ ⟨rfl, rfl⟩
  refine qP rfl rfl rfl rfl <| qN ?_
  refine mwp_cond_split rfl (fun h69 => ?_) (fun h69 => ?_)
  ·
   refine qR rfl <| qO rfl <| op_makeInterface rfl rfl Tryz.underlying62 (by simp) ?_
   refine qA rfl rfl rfl <| qN <| mwp_seq <| mwp_seq <| qR rfl <| qM rfl rfl rfl <| qO rfl <| op_ifnil rfl Tryz.underlying32 rfl rfl (.inr ⟨rfl, rfl⟩) <| qN <| mwp_cond_t rfl (rfl) <| mwp_seq <| qR rfl <| qO rfl <| op_build rfl Tryz.underlying29 zm29 .nil (by kernel_rfl) ?_
   refine qM rfl rfl rfl <| qO rfl <| op_store' rfl rfl rfl rfl sz29 rfl rfl (Nat.le_of_ble_eq_true rfl) rfl <| qA rfl rfl rfl <| qN <| mwp_ret ?_
   exact ret_cell_tmp (.inr rfl) Tryz.results68 rfl rfl ta29 rfl (.agg (.cons (.refl _) (.cons (.refl _) (.cons (.nil 1) (.cons (.nil 1) (.cons (.nil 5) .nil)))))) (cl_encV _ (noV)) rfl (.refl _) (.iface _ _ (.int _ _)) ⟨by rw [bothF_mk, hB, cap_t h69]; rfl, rfl⟩
  ·
   refine mwp_skip <| mwp_seq <| mwp_seq <| qR rfl <| qM rfl rfl rfl <| qO rfl <| op_if0 rfl Tryz.underlying32 rfl rfl (.inr ⟨rfl, rfl⟩) <| qN <| mwp_cond_f rfl (rfl) <| mwp_skip <| mwp_seq <| qR rfl <| qO rfl <| op_viewTo (y := encV (.mk (max n1 n2) 0 [] [] [])) (op_load' rfl rfl rfl ta29 rfl ⟨rfl, rfl⟩) (.agg (.cons (.refl _) (.cons (.refl _) (.cons (.nil 1) (.cons (.nil 1) (.cons (.nil 5) .nil)))))) <| qO rfl <| op_store' rfl rfl rfl rfl sz29 rfl rfl (Nat.le_of_ble_eq_true rfl) rfl <| qA rfl rfl rfl <| qN <| mwp_ret ?_
   exact ret_cell_tmp (.inr rfl) Tryz.results68 rfl rfl ta29 rfl (.refl _) (cl_encV _ (.mk (max n1 n2) 0 [] [] [])) rfl (.refl _) (.iface0) ⟨by rw [bothF_mk, hB, cap_f h69]; rfl, rfl⟩
 ·
  have hB : bothB 2 (bothL ins) (.mk n1 m1 s1 c1 w1) (.mk n2 m2 s2 c2 w2) = some (.mk (max n1 n2) 0 [] [] []) := rfl
  refine mcalls_body Tryz.func68 rfl Tryz.ntmps68 (Nat.le_of_ble_eq_true rfl) ?_
  refine mwp_seq <| qR rfl <| qB rfl rfl rfl rfl rfl <| qB rfl rfl rfl rfl rfl <| qB rfl rfl rfl rfl rfl <| qO rfl <| op_alloc' rfl zm29 rfl rfl <| qA rfl rfl rfl <| qN <| mwp_seq <| mwp_seq <| qR rfl <| qF rfl rfl rfl fo37_0 <| qL rfl rfl rfl rfl ta3 rfl <| qN <| mwp_block <| mwp_seq <| mwp_seq <| qR rfl <| qC rfl rfl rfl rfl rfl <| qA rfl rfl rfl <| qN ?_
  refine mwp_cond_f rfl (rfl) <| qR rfl <| qC rfl rfl rfl rfl rfl <| qA rfl rfl rfl <| qN <| mwp_cond_t rfl (rfl) <| qR rfl <| qF rfl rfl rfl fo29_0 <| qL rfl rfl rfl rfl ta24 rfl <| qF rfl rfl rfl fo29_0 <| qL rfl rfl rfl rfl ta24 rfl <| qO rfl <| op_max2' rfl rfl rfl (max_if n1 n2) <| qF rfl rfl rfl fo29_0 <| qO rfl <| op_store' rfl rfl rfl rfl sz24 rfl rfl (Nat.le_of_ble_eq_true rfl) rfl <| qN <| mwp_seq <| mwp_seq <| qR rfl <| qM rfl rfl rfl <| qO rfl <| op_if0 rfl Tryz.underlying32 rfl rfl (.inl ⟨rfl, rfl⟩) ?_
  refine qM rfl rfl rfl <| qO rfl <| op_viewTo (y := encV (.mk (max n1 n2) 0 [] [] [])) (op_load' rfl rfl rfl ta29 rfl ⟨rfl, rfl⟩) (.agg (.cons (.refl _) (.cons (.refl _) (.cons (.nil 1) (.cons (.nil 1) (.cons (.nil 5) .nil)))))) ?_
  refine wOps_op rfl (op_call rfl rfl rfl co103 ((isLarge_spec (max n1 n2) 0 [] [] [] _).mono ?_))
  rintro _ _ ⟨rfl, rfl⟩
  refine qP rfl rfl rfl rfl <| qN ?_
  refine mwp_cond_split rfl (fun h69 => ?_) (fun h69 => ?_)
  ·
   refine qR rfl <| qO rfl <| op_makeInterface rfl rfl Tryz.underlying62 (by simp) ?_
   refine qA rfl rfl rfl <| qN <| mwp_seq <| mwp_seq <| qR rfl <| qM rfl rfl rfl <| qO rfl <| op_ifnil rfl Tryz.underlying32 rfl rfl (.inr ⟨rfl, rfl⟩) <| qN <| mwp_cond_t rfl (rfl) <| mwp_seq <| qR rfl <| qO rfl <| op_build rfl Tryz.underlying29 zm29 .nil (by kernel_rfl) ?_
   refine qM rfl rfl rfl <| qO rfl <| op_store' rfl rfl rfl rfl sz29 rfl rfl (Nat.le_of_ble_eq_true rfl) rfl <| qA rfl rfl rfl <| qN <| mwp_ret ?_
   exact ret_cell_tmp (.inr rfl) Tryz.results68 rfl rfl ta29 rfl (.agg (.cons (.refl _) (.cons (.refl _) (.cons (.nil 1) (.cons (.nil 1) (.cons (.nil 5) .nil)))))) (cl_encV _ (noV)) rfl (.refl _) (.iface _ _ (.int _ _)) ⟨by rw [bothF_mk, hB, cap_t h69]; rfl, rfl⟩
  ·
   refine mwp_skip <| mwp_seq <| mwp_seq <| qR rfl <| qM rfl rfl rfl <| qO rfl <| op_if0 rfl Tryz.underlying32 rfl rfl (.inr ⟨rfl, rfl⟩) <| qN <| mwp_cond_f rfl (rfl) <| mwp_skip <| mwp_seq <| qR rfl <| qO rfl <| op_viewTo (y := encV (.mk (max n1 n2) 0 [] [] [])) (op_load' rfl rfl rfl ta29 rfl ⟨rfl, rfl⟩) (.agg (.cons (.refl _) (.cons (.refl _) (.cons (.nil 1) (.cons (.nil 1) (.cons (.nil 5) .nil)))))) <| qO rfl <| op_store' rfl rfl rfl rfl sz29 rfl rfl (Nat.le_of_ble_eq_true rfl) rfl <| qA rfl rfl rfl <| qN <| mwp_ret ?_
   exact ret_cell_tmp (.inr rfl) Tryz.results68 rfl rfl ta29 rfl (.refl _) (cl_encV _ (.mk (max n1 n2) 0 [] [] [])) rfl (.refl _) (.iface0) ⟨by rw [bothF_mk, hB, cap_f h69]; rfl, rfl⟩
 ·
  have b1 := isV3 ha
  have b2 := isV3 hb
  have hB : bothB 3 (bothL ins) (.mk n1 m1 s1 c1 w1) (.mk n2 m2 s2 c2 w2) = some (.mk 0 0 (bothX s1 s2) [] []) := rfl
  refine mcalls_body Tryz.func68 rfl Tryz.ntmps68 (Nat.le_of_ble_eq_true rfl) ?_
  refine mwp_seq <| qR rfl <| qB rfl rfl rfl rfl rfl <| qB rfl rfl rfl rfl rfl <| qB rfl rfl rfl rfl rfl <| qO rfl <| op_alloc' rfl zm29 rfl rfl <| qA rfl rfl rfl <| qN <| mwp_seq <| mwp_seq <| qR rfl <| qF rfl rfl rfl fo37_0 <| qL rfl rfl rfl rfl ta3 rfl <| qN <| mwp_block <| mwp_seq <| mwp_seq <| qR rfl <| qC rfl rfl rfl rfl rfl <| qA rfl rfl rfl <| qN ?_
  refine mwp_cond_f rfl (rfl) <| qR rfl <| qC rfl rfl rfl rfl rfl <| qA rfl rfl rfl <| qN <| mwp_cond_f rfl (rfl) <| mwp_seq <| qR rfl <| qC rfl rfl rfl rfl rfl <| qA rfl rfl rfl <| qN <| mwp_cond_t rfl (rfl) <| qR rfl <| qF rfl rfl rfl fo29_2 <| qL rfl rfl rfl rfl ta25 rfl <| qF rfl rfl rfl fo29_2 <| qL rfl rfl rfl rfl ta25 rfl ?_
  refine wOps_op rfl (op_call rfl rfl rfl co97 ((rowsBoth_spec s1 s2 (by omega) _).mono ?_))
  rintro _ _ ⟨rfl, rfl⟩
  refine qF rfl rfl rfl fo29_2 <| qO rfl <| op_store' rfl rfl rfl rfl sz25 rfl rfl (Nat.le_of_ble_eq_true rfl) rfl <| qN <| mwp_seq <| mwp_seq <| qR rfl <| qM rfl rfl rfl <| qO rfl <| op_if0 rfl Tryz.underlying32 rfl rfl (.inl ⟨rfl, rfl⟩) <| qM rfl rfl rfl <| qO rfl <| op_viewTo (y := encV (.mk 0 0 (bothX s1 s2) [] [])) (op_load' rfl rfl rfl ta29 rfl ⟨rfl, rfl⟩) (.agg (.cons (.refl _) (.cons (.refl _) (.cons (.refl _) (.cons (.nil 1) (.cons (.nil 5) .nil)))))) ?_
  refine wOps_op rfl (op_call rfl rfl rfl co103 ((isLarge_spec 0 0 (bothX s1 s2) [] [] _).mono ?_))
  rintro _ _ ⟨rfl, rfl⟩
  refine qP rfl rfl rfl rfl <| qN ?_
  refine mwp_cond_split rfl (fun h69 => ?_) (fun h69 => ?_)
  ·
   refine qR rfl <| qO rfl <| op_makeInterface rfl rfl Tryz.underlying62 (by simp) ?_
   refine qA rfl rfl rfl <| qN <| mwp_seq <| mwp_seq <| qR rfl <| qM rfl rfl rfl <| qO rfl <| op_ifnil rfl Tryz.underlying32 rfl rfl (.inr ⟨rfl, rfl⟩) <| qN <| mwp_cond_t rfl (rfl) <| mwp_seq <| qR rfl <| qO rfl <| op_build rfl Tryz.underlying29 zm29 .nil (by kernel_rfl) ?_
   refine qM rfl rfl rfl <| qO rfl <| op_store' rfl rfl rfl rfl sz29 rfl rfl (Nat.le_of_ble_eq_true rfl) rfl <| qA rfl rfl rfl <| qN <| mwp_ret ?_
   exact ret_cell_tmp (.inr rfl) Tryz.results68 rfl rfl ta29 rfl (.agg (.cons (.refl _) (.cons (.refl _) (.cons (.nil 1) (.cons (.nil 1) (.cons (.nil 5) .nil)))))) (cl_encV _ (noV)) rfl (.refl _) (.iface _ _ (.int _ _)) ⟨by rw [bothF_mk, hB, cap_t h69]; rfl, rfl⟩
  ·
   refine mwp_skip <| mwp_seq <| mwp_seq <| qR rfl <| qM rfl rfl rfl <| qO rfl <| op_if0 rfl Tryz.underlying32 rfl rfl (.inr ⟨rfl, rfl⟩) <| qN <| mwp_cond_f rfl (rfl) <| mwp_skip <| mwp_seq <| qR rfl <| qO rfl <| op_viewTo (y := encV (.mk 0 0 (bothX s1 s2) [] [])) (op_load' rfl rfl rfl ta29 rfl ⟨rfl, rfl⟩) (.agg (.cons (.refl _) (.cons (.refl _) (.cons (.refl _) (.cons (.nil 1) (.cons (.nil 5) .nil)))))) <| qO rfl <| op_store' rfl rfl rfl rfl sz29 rfl rfl (Nat.le_of_ble_eq_true rfl) rfl <| qA rfl rfl rfl <| qN <| mwp_ret ?_
   exact ret_cell_tmp (.inr rfl) Tryz.results68 rfl rfl ta29 rfl (.refl _) (cl_encV _ (.mk 0 0 (bothX s1 s2) [] [])) rfl (.refl _) (.iface0) ⟨by rw [bothF_mk, hB, cap_f h69]; rfl, rfl⟩
 ·
  obtain ⟨⟨k1, i1⟩, rfl⟩ := one_ins hd.1 (by decide)
  have ih1 := ih (.mk k1 i1) (hd.2 _ (by simp))
  obtain ⟨p1, p2, p3⟩ := isV4 ha
  obtain ⟨q1, q2, q3⟩ := isV4 hb
  have hof := maps_spec 4 k1 i1 [] (bothF (.mk k1 i1)) n1 m1 s1 c1 w1 n2 m2 s2 c2 w2 p2 q2 p1 q1 (fun x hx y hy => ih1 x y (p3 x hx) (q3 y hy))
  have hBq : bothB 4 (bothL [.mk k1 i1]) (.mk n1 m1 s1 c1 w1) (.mk n2 m2 s2 c2 w2) = mapsF (bothF (.mk k1 i1)) (.mk n1 m1 s1 c1 w1) (.mk n2 m2 s2 c2 w2) := rfl
  rcases hO : mapsF (bothF (.mk k1 i1)) (.mk n1 m1 s1 c1 w1) (.mk n2 m2 s2 c2 w2) with _ | ⟨⟨n3, m3, s3, c3, w3⟩⟩ <;> rw [hO] at hof hBq
  ·
   refine mcalls_body Tryz.func68 rfl Tryz.ntmps68 (Nat.le_of_ble_eq_true rfl) ?_
   refine mwp_seq <| qR rfl <| qB rfl rfl rfl rfl rfl <| qB rfl rfl rfl rfl rfl <| qB rfl rfl rfl rfl rfl <| qO rfl <| op_alloc' rfl zm29 rfl rfl <| qA rfl rfl rfl <| qN <| mwp_seq <| mwp_seq <| qR rfl <| qF rfl rfl rfl fo37_0 <| qL rfl rfl rfl rfl ta3 rfl <| qN <| mwp_block <| mwp_seq <| mwp_seq <| qR rfl <| qC rfl rfl rfl rfl rfl <| qA rfl rfl rfl <| qN ?_
   refine mwp_cond_f rfl (rfl) <| qR rfl <| qC rfl rfl rfl rfl rfl <| qA rfl rfl rfl <| qN <| mwp_cond_f rfl (rfl) <| mwp_seq <| qR rfl <| qC rfl rfl rfl rfl rfl <| qA rfl rfl rfl <| qN <| mwp_cond_f rfl (rfl) <| mwp_seq <| qR rfl <| qC rfl rfl rfl rfl rfl <| qA rfl rfl rfl <| qN <| mwp_cond_t rfl (rfl) <| qR rfl <| qL rfl rfl rfl rfl ta37 rfl <| qL rfl rfl rfl rfl ta29 rfl <| qL rfl rfl rfl rfl ta29 rfl ?_
   refine wOps_op rfl (op_call rfl rfl rfl co98 ((hof _).mono ?_))
   rintro _ _ ⟨rfl, rfl⟩
   refine qM rfl rfl rfl <| qO rfl <| op_extract rfl rfl rfl <| qO rfl <| op_extract rfl rfl rfl <| qO rfl <| op_store' rfl rfl rfl rfl sz29 rfl rfl (Nat.le_of_ble_eq_true rfl) rfl <| qA rfl rfl rfl <| qN <| mwp_seq <| mwp_seq <| qR rfl <| qM rfl rfl rfl <| qO rfl <| op_ifnil rfl Tryz.underlying32 rfl rfl (.inl ⟨rfl, rfl⟩) <| qM rfl rfl rfl <| qS rfl <| qS rfl <| qP rfl rfl rfl rfl <| qN <| mwp_cond_f rfl (rfl) <| mwp_skip <| mwp_seq <| mwp_seq <| qR rfl ?_
   refine qM rfl rfl rfl <| qO rfl <| op_ifnil rfl Tryz.underlying32 rfl rfl (.inr ⟨rfl, rfl⟩) <| qN <| mwp_cond_t rfl (rfl) <| mwp_seq <| qR rfl <| qO rfl <| op_build rfl Tryz.underlying29 zm29 .nil (by kernel_rfl) ?_
   refine qM rfl rfl rfl <| qO rfl <| op_store' rfl rfl rfl rfl sz29 rfl rfl (Nat.le_of_ble_eq_true rfl) rfl <| qA rfl rfl rfl <| qN <| mwp_ret ?_
   exact ret_cell_tmp (.inr rfl) Tryz.results68 rfl rfl ta29 rfl (.agg (.cons (.refl _) (.cons (.refl _) (.cons (.nil 1) (.cons (.nil 1) (.cons (.nil 5) .nil)))))) (cl_encV _ (noV)) rfl (.refl _) (.iface _ _ (.int _ _)) ⟨by rw [bothF_mk, hBq]; rfl, rfl⟩
  ·
   refine mcalls_body Tryz.func68 rfl Tryz.ntmps68 (Nat.le_of_ble_eq_true rfl) ?_
   refine mwp_seq <| qR rfl <| qB rfl rfl rfl rfl rfl <| qB rfl rfl rfl rfl rfl <| qB rfl rfl rfl rfl rfl <| qO rfl <| op_alloc' rfl zm29 rfl rfl <| qA rfl rfl rfl <| qN <| mwp_seq <| mwp_seq <| qR rfl <| qF rfl rfl rfl fo37_0 <| qL rfl rfl rfl rfl ta3 rfl <| qN <| mwp_block <| mwp_seq <| mwp_seq <| qR rfl <| qC rfl rfl rfl rfl rfl <| qA rfl rfl rfl <| qN ?_
   refine mwp_cond_f rfl (rfl) <| qR rfl <| qC rfl rfl rfl rfl rfl <| qA rfl rfl rfl <| qN <| mwp_cond_f rfl (rfl) <| mwp_seq <| qR rfl <| qC rfl rfl rfl rfl rfl <| qA rfl rfl rfl <| qN <| mwp_cond_f rfl (rfl) <| mwp_seq <| qR rfl <| qC rfl rfl rfl rfl rfl <| qA rfl rfl rfl <| qN <| mwp_cond_t rfl (rfl) <| qR rfl <| qL rfl rfl rfl rfl ta37 rfl <| qL rfl rfl rfl rfl ta29 rfl <| qL rfl rfl rfl rfl ta29 rfl ?_
   refine wOps_op rfl (op_call rfl rfl rfl co98 ((hof _).mono ?_))
   rintro _ _ ⟨rfl, rfl⟩
   refine qM rfl rfl rfl <| qO rfl <| op_extract rfl rfl rfl <| qO rfl <| op_extract rfl rfl rfl <| qO rfl <| op_store' rfl rfl rfl rfl sz29 rfl rfl (Nat.le_of_ble_eq_true rfl) rfl <| qA rfl rfl rfl <| qN <| mwp_seq <| mwp_seq <| qR rfl <| qM rfl rfl rfl <| qO rfl <| op_if0 rfl Tryz.underlying32 rfl rfl (.inl ⟨rfl, rfl⟩) <| qM rfl rfl rfl <| qL rfl rfl rfl rfl ta29 rfl ?_
   refine wOps_op rfl (op_call rfl rfl rfl co103 ((isLarge_spec n3 m3 s3 c3 w3 _).mono ?_))
   rintro _ _ ⟨rfl, rfl⟩
   refine qP rfl rfl rfl rfl <| qN ?_
   refine mwp_cond_split rfl (fun h69 => ?_) (fun h69 => ?_)
   ·
    refine qR rfl <| qO rfl <| op_makeInterface rfl rfl Tryz.underlying62 (by simp) ?_
    refine qA rfl rfl rfl <| qN <| mwp_seq <| mwp_seq <| qR rfl <| qM rfl rfl rfl <| qO rfl <| op_ifnil rfl Tryz.underlying32 rfl rfl (.inr ⟨rfl, rfl⟩) <| qN <| mwp_cond_t rfl (rfl) <| mwp_seq <| qR rfl <| qO rfl <| op_build rfl Tryz.underlying29 zm29 .nil (by kernel_rfl) ?_
    refine qM rfl rfl rfl <| qO rfl <| op_store' rfl rfl rfl rfl sz29 rfl rfl (Nat.le_of_ble_eq_true rfl) rfl <| qA rfl rfl rfl <| qN <| mwp_ret ?_
    exact ret_cell_tmp (.inr rfl) Tryz.results68 rfl rfl ta29 rfl (.agg (.cons (.refl _) (.cons (.refl _) (.cons (.nil 1) (.cons (.nil 1) (.cons (.nil 5) .nil)))))) (cl_encV _ (noV)) rfl (.refl _) (.iface _ _ (.int _ _)) ⟨by rw [bothF_mk, hBq, cap_t h69]; rfl, rfl⟩
   ·
    refine mwp_skip <| mwp_seq <| mwp_seq <| qR rfl <| qM rfl rfl rfl <| qO rfl <| op_if0 rfl Tryz.underlying32 rfl rfl (.inr ⟨rfl, rfl⟩) <| qN <| mwp_cond_f rfl (rfl) <| mwp_skip <| mwp_seq <| qR rfl <| qL rfl rfl rfl rfl ta29 rfl <| qO rfl <| op_store' rfl rfl rfl rfl sz29 rfl rfl (Nat.le_of_ble_eq_true rfl) rfl <| qA rfl rfl rfl <| qN <| mwp_ret ?_
    exact ret_cell_tmp (.inr rfl) Tryz.results68 rfl rfl ta29 rfl (.refl _) (cl_encV _ (.mk n3 m3 s3 c3 w3)) rfl (.refl _) (.iface0) ⟨by rw [bothF_mk, hBq, cap_f h69]; rfl, rfl⟩
 ·
  obtain ⟨⟨k1, i1⟩, ⟨k2, i2⟩, rfl⟩ := two_of hd.1
  have ih1 := ih (.mk k1 i1) (hd.2 _ (by simp))
  have ih2 := ih (.mk k2 i2) (hd.2 _ (by simp))
  obtain ⟨x1, y1, rfl, p1, p2⟩ := isV5 ha
  obtain ⟨x2, y2, rfl, q1, q2⟩ := isV5 hb
  have hof := pairs_specJ 5 [.mk k1 i1, .mk k2 i2] (by simp) bothF n1 m1 s1 c1 [x1, y1] n2 m2 s2 c2 [x2, y2] rfl rfl (fun i s x y hs hx hy => by
   match i, hs, hx, hy with
   | 0, hs, hx, hy => simp at hs hx hy; subst hs hx hy; exact ih1 _ _ p1 q1
   | 1, hs, hx, hy => simp at hs hx hy; subst hs hx hy; exact ih2 _ _ p2 q2
   | i + 2, hs, _, _ => simp at hs)
  have hBq : bothB 5 (bothL [.mk k1 i1, .mk k2 i2]) (.mk n1 m1 s1 c1 [x1, y1]) (.mk n2 m2 s2 c2 [x2, y2]) = pairF2 ([.mk k1 i1, .mk k2 i2].map bothF) (.mk n1 m1 s1 c1 [x1, y1]) (.mk n2 m2 s2 c2 [x2, y2]) := by rw [bothL_eq]; rfl
  rcases hO : pairF2 ([.mk k1 i1, .mk k2 i2].map bothF) (.mk n1 m1 s1 c1 [x1, y1]) (.mk n2 m2 s2 c2 [x2, y2]) with _ | ⟨⟨n3, m3, s3, c3, w3⟩⟩ <;> rw [hO] at hof hBq
  ·
   refine mcalls_body Tryz.func68 rfl Tryz.ntmps68 (Nat.le_of_ble_eq_true rfl) ?_
   refine mwp_seq <| qR rfl <| qB rfl rfl rfl rfl rfl <| qB rfl rfl rfl rfl rfl <| qB rfl rfl rfl rfl rfl <| qO rfl <| op_alloc' rfl zm29 rfl rfl <| qA rfl rfl rfl <| qN <| mwp_seq <| mwp_seq <| qR rfl <| qF rfl rfl rfl fo37_0 <| qL rfl rfl rfl rfl ta3 rfl <| qN <| mwp_block <| mwp_seq <| mwp_seq <| qR rfl <| qC rfl rfl rfl rfl rfl <| qA rfl rfl rfl <| qN ?_
   refine mwp_cond_f rfl (rfl) <| qR rfl <| qC rfl rfl rfl rfl rfl <| qA rfl rfl rfl <| qN <| mwp_cond_f rfl (rfl) <| mwp_seq <| qR rfl <| qC rfl rfl rfl rfl rfl <| qA rfl rfl rfl <| qN <| mwp_cond_f rfl (rfl) <| mwp_seq <| qR rfl <| qC rfl rfl rfl rfl rfl <| qA rfl rfl rfl <| qN <| mwp_cond_f rfl (rfl) <| mwp_seq <| qR rfl <| qC rfl rfl rfl rfl rfl <| qA rfl rfl rfl ?_
   refine qN <| mwp_cond_t rfl (rfl) <| qR rfl <| qL rfl rfl rfl rfl ta37 rfl <| qL rfl rfl rfl rfl ta29 rfl <| qL rfl rfl rfl rfl ta29 rfl ?_
   refine wOps_op rfl (op_call rfl rfl rfl co99 ((hof _).mono ?_))
   rintro _ _ ⟨rfl, rfl⟩
   refine qM rfl rfl rfl <| qO rfl <| op_extract rfl rfl rfl <| qO rfl <| op_extract rfl rfl rfl <| qO rfl <| op_store' rfl rfl rfl rfl sz29 rfl rfl (Nat.le_of_ble_eq_true rfl) rfl <| qA rfl rfl rfl <| qN <| mwp_seq <| mwp_seq <| qR rfl <| qM rfl rfl rfl <| qO rfl <| op_ifnil rfl Tryz.underlying32 rfl rfl (.inl ⟨rfl, rfl⟩) <| qM rfl rfl rfl <| qS rfl <| qS rfl <| qP rfl rfl rfl rfl <| qN <| mwp_cond_f rfl (rfl) <| mwp_skip <| mwp_seq <| mwp_seq <| qR rfl ?_
   refine qM rfl rfl rfl <| qO rfl <| op_ifnil rfl Tryz.underlying32 rfl rfl (.inr ⟨rfl, rfl⟩) <| qN <| mwp_cond_t rfl (rfl) <| mwp_seq <| qR rfl <| qO rfl <| op_build rfl Tryz.underlying29 zm29 .nil (by kernel_rfl) ?_
   refine qM rfl rfl rfl <| qO rfl <| op_store' rfl rfl rfl rfl sz29 rfl rfl (Nat.le_of_ble_eq_true rfl) rfl <| qA rfl rfl rfl <| qN <| mwp_ret ?_
   exact ret_cell_tmp (.inr rfl) Tryz.results68 rfl rfl ta29 rfl (.agg (.cons (.refl _) (.cons (.refl _) (.cons (.nil 1) (.cons (.nil 1) (.cons (.nil 5) .nil)))))) (cl_encV _ (noV)) rfl (.refl _) (.iface _ _ (.int _ _)) ⟨by rw [bothF_mk, hBq]; rfl, rfl⟩
  ·
   refine mcalls_body Tryz.func68 rfl Tryz.ntmps68 (Nat.le_of_ble_eq_true rfl) ?_
   refine mwp_seq <| qR rfl <| qB rfl rfl rfl rfl rfl <| qB rfl rfl rfl rfl rfl <| qB rfl rfl rfl rfl rfl <| qO rfl <| op_alloc' rfl zm29 rfl rfl <| qA rfl rfl rfl <| qN <| mwp_seq <| mwp_seq <| qR rfl <| qF rfl rfl rfl fo37_0 <| qL rfl rfl rfl rfl ta3 rfl <| qN <| mwp_block <| mwp_seq <| mwp_seq <| qR rfl <| qC rfl rfl rfl rfl rfl <| qA rfl rfl rfl <| qN ?_
   refine mwp_cond_f rfl (rfl) <| qR rfl <| qC rfl rfl rfl rfl rfl <| qA rfl rfl rfl <| qN <| mwp_cond_f rfl (rfl) <| mwp_seq <| qR rfl <| qC rfl rfl rfl rfl rfl <| qA rfl rfl rfl <| qN <| mwp_cond_f rfl (rfl) <| mwp_seq <| qR rfl <| qC rfl rfl rfl rfl rfl <| qA rfl rfl rfl <| qN <| mwp_cond_f rfl (rfl) <| mwp_seq <| qR rfl <| qC rfl rfl rfl rfl rfl <| qA rfl rfl rfl ?_
   refine qN <| mwp_cond_t rfl (rfl) <| qR rfl <| qL rfl rfl rfl rfl ta37 rfl <| qL rfl rfl rfl rfl ta29 rfl <| qL rfl rfl rfl rfl ta29 rfl ?_
   refine wOps_op rfl (op_call rfl rfl rfl co99 ((hof _).mono ?_))
   rintro _ _ ⟨rfl, rfl⟩
   refine qM rfl rfl rfl <| qO rfl <| op_extract rfl rfl rfl <| qO rfl <| op_extract rfl rfl rfl <| qO rfl <| op_store' rfl rfl rfl rfl sz29 rfl rfl (Nat.le_of_ble_eq_true rfl) rfl <| qA rfl rfl rfl <| qN <| mwp_seq <| mwp_seq <| qR rfl <| qM rfl rfl rfl <| qO rfl <| op_if0 rfl Tryz.underlying32 rfl rfl (.inl ⟨rfl, rfl⟩) <| qM rfl rfl rfl <| qL rfl rfl rfl rfl ta29 rfl ?_
   refine wOps_op rfl (op_call rfl rfl rfl co103 ((isLarge_spec n3 m3 s3 c3 w3 _).mono ?_))
   rintro _ _ ⟨rfl, rfl⟩
   refine qP rfl rfl rfl rfl <| qN ?_
   refine mwp_cond_split rfl (fun h69 => ?_) (fun h69 => ?_)
   ·
    refine qR rfl <| qO rfl <| op_makeInterface rfl rfl Tryz.underlying62 (by simp) ?_
    refine qA rfl rfl rfl <| qN <| mwp_seq <| mwp_seq <| qR rfl <| qM rfl rfl rfl <| qO rfl <| op_ifnil rfl Tryz.underlying32 rfl rfl (.inr ⟨rfl, rfl⟩) <| qN <| mwp_cond_t rfl (rfl) <| mwp_seq <| qR rfl <| qO rfl <| op_build rfl Tryz.underlying29 zm29 .nil (by kernel_rfl) ?_
    refine qM rfl rfl rfl <| qO rfl <| op_store' rfl rfl rfl rfl sz29 rfl rfl (Nat.le_of_ble_eq_true rfl) rfl <| qA rfl rfl rfl <| qN <| mwp_ret ?_
    exact ret_cell_tmp (.inr rfl) Tryz.results68 rfl rfl ta29 rfl (.agg (.cons (.refl _) (.cons (.refl _) (.cons (.nil 1) (.cons (.nil 1) (.cons (.nil 5) .nil)))))) (cl_encV _ (noV)) rfl (.refl _) (.iface _ _ (.int _ _)) ⟨by rw [bothF_mk, hBq, cap_t h69]; rfl, rfl⟩
   ·
    refine mwp_skip <| mwp_seq <| mwp_seq <| qR rfl <| qM rfl rfl rfl <| qO rfl <| op_if0 rfl Tryz.underlying32 rfl rfl (.inr ⟨rfl, rfl⟩) <| qN <| mwp_cond_f rfl (rfl) <| mwp_skip <| mwp_seq <| qR rfl <| qL rfl rfl rfl rfl ta29 rfl <| qO rfl <| op_store' rfl rfl rfl rfl sz29 rfl rfl (Nat.le_of_ble_eq_true rfl) rfl <| qA rfl rfl rfl <| qN <| mwp_ret ?_
    exact ret_cell_tmp (.inr rfl) Tryz.results68 rfl rfl ta29 rfl (.refl _) (cl_encV _ (.mk n3 m3 s3 c3 w3)) rfl (.refl _) (.iface0) ⟨by rw [bothF_mk, hBq, cap_f h69]; rfl, rfl⟩
 ·
  obtain ⟨n3, m3, s3, c3, w3, hlt⟩ : ∃ n m s c w, laterF (.mk n1 m1 s1 c1 w1) (.mk n2 m2 s2 c2 w2) = .mk n m s c w := by cases laterF (.mk n1 m1 s1 c1 w1) (.mk n2 m2 s2 c2 w2) with
   | mk n m s c w => exact ⟨n, m, s, c, w, rfl⟩
  have hlt2 := later_spec n1 m1 s1 c1 w1 n2 m2 s2 c2 w2
  rw [hlt] at hlt2
  have hB : bothB 6 (bothL ins) (.mk n1 m1 s1 c1 w1) (.mk n2 m2 s2 c2 w2) = some (.mk n3 m3 s3 c3 w3) := congrArg some hlt
  refine mcalls_body Tryz.func68 rfl Tryz.ntmps68 (Nat.le_of_ble_eq_true rfl) ?_
  refine mwp_seq <| qR rfl <| qB rfl rfl rfl rfl rfl <| qB rfl rfl rfl rfl rfl <| qB rfl rfl rfl rfl rfl <| qO rfl <| op_alloc' rfl zm29 rfl rfl <| qA rfl rfl rfl <| qN <| mwp_seq <| mwp_seq <| qR rfl <| qF rfl rfl rfl fo37_0 <| qL rfl rfl rfl rfl ta3 rfl <| qN <| mwp_block <| mwp_seq <| mwp_seq <| qR rfl <| qC rfl rfl rfl rfl rfl <| qA rfl rfl rfl <| qN ?_
  refine mwp_cond_f rfl (rfl) <| qR rfl <| qC rfl rfl rfl rfl rfl <| qA rfl rfl rfl <| qN <| mwp_cond_f rfl (rfl) <| mwp_seq <| qR rfl <| qC rfl rfl rfl rfl rfl <| qA rfl rfl rfl <| qN <| mwp_cond_f rfl (rfl) <| mwp_seq <| qR rfl <| qC rfl rfl rfl rfl rfl <| qA rfl rfl rfl <| qN <| mwp_cond_f rfl (rfl) <| mwp_seq <| qR rfl <| qC rfl rfl rfl rfl rfl <| qA rfl rfl rfl ?_
  refine qN <| mwp_cond_f rfl (rfl) <| mwp_seq <| qR rfl <| qC rfl rfl rfl rfl rfl <| qA rfl rfl rfl <| qN <| mwp_cond_t rfl (rfl) <| qR rfl <| qL rfl rfl rfl rfl ta29 rfl <| qL rfl rfl rfl rfl ta29 rfl ?_
  refine wOps_op rfl (op_call rfl rfl rfl co100 ((hlt2 _).mono ?_))
  rintro _ _ ⟨rfl, rfl⟩
  refine qO rfl <| op_store' rfl rfl rfl rfl sz29 rfl rfl (Nat.le_of_ble_eq_true rfl) rfl <| qN <| mwp_seq <| mwp_seq <| qR rfl <| qM rfl rfl rfl <| qO rfl <| op_if0 rfl Tryz.underlying32 rfl rfl (.inl ⟨rfl, rfl⟩) <| qM rfl rfl rfl <| qL rfl rfl rfl rfl ta29 rfl ?_
  refine wOps_op rfl (op_call rfl rfl rfl co103 ((isLarge_spec n3 m3 s3 c3 w3 _).mono ?_))
  rintro _ _ ⟨rfl, rfl⟩
  refine qP rfl rfl rfl rfl <| qN ?_
  refine mwp_cond_split rfl (fun h69 => ?_) (fun h69 => ?_)
  ·
   refine qR rfl <| qO rfl <| op_makeInterface rfl rfl Tryz.underlying62 (by simp) ?_
   refine qA rfl rfl rfl <| qN <| mwp_seq <| mwp_seq <| qR rfl <| qM rfl rfl rfl <| qO rfl <| op_ifnil rfl Tryz.underlying32 rfl rfl (.inr ⟨rfl, rfl⟩) <| qN <| mwp_cond_t rfl (rfl) <| mwp_seq <| qR rfl <| qO rfl <| op_build rfl Tryz.underlying29 zm29 .nil (by kernel_rfl) ?_
   refine qM rfl rfl rfl <| qO rfl <| op_store' rfl rfl rfl rfl sz29 rfl rfl (Nat.le_of_ble_eq_true rfl) rfl <| qA rfl rfl rfl <| qN <| mwp_ret ?_
   exact ret_cell_tmp (.inr rfl) Tryz.results68 rfl rfl ta29 rfl (.agg (.cons (.refl _) (.cons (.refl _) (.cons (.nil 1) (.cons (.nil 1) (.cons (.nil 5) .nil)))))) (cl_encV _ (noV)) rfl (.refl _) (.iface _ _ (.int _ _)) ⟨by rw [bothF_mk, hB, cap_t h69]; rfl, rfl⟩
  ·
   refine mwp_skip <| mwp_seq <| mwp_seq <| qR rfl <| qM rfl rfl rfl <| qO rfl <| op_if0 rfl Tryz.underlying32 rfl rfl (.inr ⟨rfl, rfl⟩) <| qN <| mwp_cond_f rfl (rfl) <| mwp_skip <| mwp_seq <| qR rfl <| qL rfl rfl rfl rfl ta29 rfl <| qO rfl <| op_store' rfl rfl rfl rfl sz29 rfl rfl (Nat.le_of_ble_eq_true rfl) rfl <| qA rfl rfl rfl <| qN <| mwp_ret ?_
   exact ret_cell_tmp (.inr rfl) Tryz.results68 rfl rfl ta29 rfl (.refl _) (cl_encV _ (.mk n3 m3 s3 c3 w3)) rfl (.refl _) (.iface0) ⟨by rw [bothF_mk, hB, cap_f h69]; rfl, rfl⟩
 ·
  have b1 := isV7 ha
  have b2 := isV7 hb
  obtain ⟨n3, m3, s3, c3, w3, hlt⟩ : ∃ n m s c w, clocksF (.mk n1 m1 s1 c1 w1) (.mk n2 m2 s2 c2 w2) = .mk n m s c w := by cases clocksF (.mk n1 m1 s1 c1 w1) (.mk n2 m2 s2 c2 w2) with
   | mk n m s c w => exact ⟨n, m, s, c, w, rfl⟩
  have hlt2 := clocks_spec n1 m1 s1 c1 w1 n2 m2 s2 c2 w2 (fun x hx y hy => by have := b1 x hx; have := b2 y hy; omega)
  rw [hlt] at hlt2
  have hB : bothB 7 (bothL ins) (.mk n1 m1 s1 c1 w1) (.mk n2 m2 s2 c2 w2) = some (.mk n3 m3 s3 c3 w3) := congrArg some hlt
  refine mcalls_body Tryz.func68 rfl Tryz.ntmps68 (Nat.le_of_ble_eq_true rfl) ?_
  refine mwp_seq <| qR rfl <| qB rfl rfl rfl rfl rfl <| qB rfl rfl rfl rfl rfl <| qB rfl rfl rfl rfl rfl <| qO rfl <| op_alloc' rfl zm29 rfl rfl <| qA rfl rfl rfl <| qN <| mwp_seq <| mwp_seq <| qR rfl <| qF rfl rfl rfl fo37_0 <| qL rfl rfl rfl rfl ta3 rfl <| qN <| mwp_block <| mwp_seq <| mwp_seq <| qR rfl <| qC rfl rfl rfl rfl rfl <| qA rfl rfl rfl <| qN ?_
  refine mwp_cond_f rfl (rfl) <| qR rfl <| qC rfl rfl rfl rfl rfl <| qA rfl rfl rfl <| qN <| mwp_cond_f rfl (rfl) <| mwp_seq <| qR rfl <| qC rfl rfl rfl rfl rfl <| qA rfl rfl rfl <| qN <| mwp_cond_f rfl (rfl) <| mwp_seq <| qR rfl <| qC rfl rfl rfl rfl rfl <| qA rfl rfl rfl <| qN <| mwp_cond_f rfl (rfl) <| mwp_seq <| qR rfl <| qC rfl rfl rfl rfl rfl <| qA rfl rfl rfl ?_
  refine qN <| mwp_cond_f rfl (rfl) <| mwp_seq <| qR rfl <| qC rfl rfl rfl rfl rfl <| qA rfl rfl rfl <| qN <| mwp_cond_f rfl (rfl) <| mwp_seq <| qR rfl <| qC rfl rfl rfl rfl rfl <| qA rfl rfl rfl <| qN <| mwp_cond_t rfl (rfl) <| qR rfl <| qL rfl rfl rfl rfl ta29 rfl <| qL rfl rfl rfl rfl ta29 rfl ?_
  refine wOps_op rfl (op_call rfl rfl rfl co101 ((hlt2 _).mono ?_))
  rintro _ _ ⟨rfl, rfl⟩
  refine qO rfl <| op_store' rfl rfl rfl rfl sz29 rfl rfl (Nat.le_of_ble_eq_true rfl) rfl <| qN <| mwp_seq <| mwp_seq <| qR rfl <| qM rfl rfl rfl <| qO rfl <| op_if0 rfl Tryz.underlying32 rfl rfl (.inl ⟨rfl, rfl⟩) <| qM rfl rfl rfl <| qL rfl rfl rfl rfl ta29 rfl ?_
  refine wOps_op rfl (op_call rfl rfl rfl co103 ((isLarge_spec n3 m3 s3 c3 w3 _).mono ?_))
  rintro _ _ ⟨rfl, rfl⟩
  refine qP rfl rfl rfl rfl <| qN ?_
  refine mwp_cond_split rfl (fun h69 => ?_) (fun h69 => ?_)
  ·
   refine qR rfl <| qO rfl <| op_makeInterface rfl rfl Tryz.underlying62 (by simp) ?_
   refine qA rfl rfl rfl <| qN <| mwp_seq <| mwp_seq <| qR rfl <| qM rfl rfl rfl <| qO rfl <| op_ifnil rfl Tryz.underlying32 rfl rfl (.inr ⟨rfl, rfl⟩) <| qN <| mwp_cond_t rfl (rfl) <| mwp_seq <| qR rfl <| qO rfl <| op_build rfl Tryz.underlying29 zm29 .nil (by kernel_rfl) ?_
   refine qM rfl rfl rfl <| qO rfl <| op_store' rfl rfl rfl rfl sz29 rfl rfl (Nat.le_of_ble_eq_true rfl) rfl <| qA rfl rfl rfl <| qN <| mwp_ret ?_
   exact ret_cell_tmp (.inr rfl) Tryz.results68 rfl rfl ta29 rfl (.agg (.cons (.refl _) (.cons (.refl _) (.cons (.nil 1) (.cons (.nil 1) (.cons (.nil 5) .nil)))))) (cl_encV _ (noV)) rfl (.refl _) (.iface _ _ (.int _ _)) ⟨by rw [bothF_mk, hB, cap_t h69]; rfl, rfl⟩
  ·
   refine mwp_skip <| mwp_seq <| mwp_seq <| qR rfl <| qM rfl rfl rfl <| qO rfl <| op_if0 rfl Tryz.underlying32 rfl rfl (.inr ⟨rfl, rfl⟩) <| qN <| mwp_cond_f rfl (rfl) <| mwp_skip <| mwp_seq <| qR rfl <| qL rfl rfl rfl rfl ta29 rfl <| qO rfl <| op_store' rfl rfl rfl rfl sz29 rfl rfl (Nat.le_of_ble_eq_true rfl) rfl <| qA rfl rfl rfl <| qN <| mwp_ret ?_
   exact ret_cell_tmp (.inr rfl) Tryz.results68 rfl rfl ta29 rfl (.refl _) (cl_encV _ (.mk n3 m3 s3 c3 w3)) rfl (.refl _) (.iface0) ⟨by rw [bothF_mk, hB, cap_f h69]; rfl, rfl⟩
 ·
  obtain ⟨⟨k1, i1⟩, rfl⟩ := one_ins hd.1 (by decide)
  have ih1 := ih (.mk k1 i1) (hd.2 _ (by simp))
  obtain ⟨p1, p2, p4, p3⟩ := isV8 ha
  obtain ⟨q1, q2, q4, q3⟩ := isV8 hb
  have hof := causes_spec 8 k1 i1 [] (bothF (.mk k1 i1)) n1 m1 s1 c1 w1 n2 m2 s2 c2 w2 p2 q2 p1 q1 (fun x hx => by have := p4 x hx; omega) (fun x hx => by have := q4 x hx; omega) (fun x hx y hy => ih1 x y (p3 x hx) (q3 y hy))
  have hBq : bothB 8 (bothL [.mk k1 i1]) (.mk n1 m1 s1 c1 w1) (.mk n2 m2 s2 c2 w2) = causesF (bothF (.mk k1 i1)) (.mk n1 m1 s1 c1 w1) (.mk n2 m2 s2 c2 w2) := rfl
  rcases hO : causesF (bothF (.mk k1 i1)) (.mk n1 m1 s1 c1 w1) (.mk n2 m2 s2 c2 w2) with _ | ⟨⟨n3, m3, s3, c3, w3⟩⟩ <;> rw [hO] at hof hBq
  ·
   refine mcalls_body Tryz.func68 rfl Tryz.ntmps68 (Nat.le_of_ble_eq_true rfl) ?_
   refine mwp_seq <| qR rfl <| qB rfl rfl rfl rfl rfl <| qB rfl rfl rfl rfl rfl <| qB rfl rfl rfl rfl rfl <| qO rfl <| op_alloc' rfl zm29 rfl rfl <| qA rfl rfl rfl <| qN <| mwp_seq <| mwp_seq <| qR rfl <| qF rfl rfl rfl fo37_0 <| qL rfl rfl rfl rfl ta3 rfl <| qN <| mwp_block <| mwp_seq <| mwp_seq <| qR rfl <| qC rfl rfl rfl rfl rfl <| qA rfl rfl rfl <| qN ?_
   refine mwp_cond_f rfl (rfl) <| qR rfl <| qC rfl rfl rfl rfl rfl <| qA rfl rfl rfl <| qN <| mwp_cond_f rfl (rfl) <| mwp_seq <| qR rfl <| qC rfl rfl rfl rfl rfl <| qA rfl rfl rfl <| qN <| mwp_cond_f rfl (rfl) <| mwp_seq <| qR rfl <| qC rfl rfl rfl rfl rfl <| qA rfl rfl rfl <| qN <| mwp_cond_f rfl (rfl) <| mwp_seq <| qR rfl <| qC rfl rfl rfl rfl rfl <| qA rfl rfl rfl ?_
   refine qN <| mwp_cond_f rfl (rfl) <| mwp_seq <| qR rfl <| qC rfl rfl rfl rfl rfl <| qA rfl rfl rfl <| qN <| mwp_cond_f rfl (rfl) <| mwp_seq <| qR rfl <| qC rfl rfl rfl rfl rfl <| qA rfl rfl rfl <| qN <| mwp_cond_f rfl (rfl) <| mwp_seq <| qR rfl <| qC rfl rfl rfl rfl rfl <| qA rfl rfl rfl <| qN <| mwp_cond_t rfl (rfl) <| qR rfl <| qL rfl rfl rfl rfl ta37 rfl <| qL rfl rfl rfl rfl ta29 rfl ?_
   refine qL rfl rfl rfl rfl ta29 rfl ?_
   refine wOps_op rfl (op_call rfl rfl rfl co102 ((hof _).mono ?_))
   rintro _ _ ⟨rfl, rfl⟩
   refine qM rfl rfl rfl <| qO rfl <| op_extract rfl rfl rfl <| qO rfl <| op_extract rfl rfl rfl <| qO rfl <| op_store' rfl rfl rfl rfl sz29 rfl rfl (Nat.le_of_ble_eq_true rfl) rfl <| qA rfl rfl rfl <| qN <| mwp_seq <| mwp_seq <| qR rfl <| qM rfl rfl rfl <| qO rfl <| op_ifnil rfl Tryz.underlying32 rfl rfl (.inl ⟨rfl, rfl⟩) <| qM rfl rfl rfl <| qS rfl <| qS rfl <| qP rfl rfl rfl rfl <| qN <| mwp_cond_f rfl (rfl) <| mwp_skip <| mwp_seq <| mwp_seq <| qR rfl ?_
   refine qM rfl rfl rfl <| qO rfl <| op_ifnil rfl Tryz.underlying32 rfl rfl (.inr ⟨rfl, rfl⟩) <| qN <| mwp_cond_t rfl (rfl) <| mwp_seq <| qR rfl <| qO rfl <| op_build rfl Tryz.underlying29 zm29 .nil (by kernel_rfl) ?_
   refine qM rfl rfl rfl <| qO rfl <| op_store' rfl rfl rfl rfl sz29 rfl rfl (Nat.le_of_ble_eq_true rfl) rfl <| qA rfl rfl rfl <| qN <| mwp_ret ?_
   exact ret_cell_tmp (.inr rfl) Tryz.results68 rfl rfl ta29 rfl (.agg (.cons (.refl _) (.cons (.refl _) (.cons (.nil 1) (.cons (.nil 1) (.cons (.nil 5) .nil)))))) (cl_encV _ (noV)) rfl (.refl _) (.iface _ _ (.int _ _)) ⟨by rw [bothF_mk, hBq]; rfl, rfl⟩
  ·
   refine mcalls_body Tryz.func68 rfl Tryz.ntmps68 (Nat.le_of_ble_eq_true rfl) ?_
   refine mwp_seq <| qR rfl <| qB rfl rfl rfl rfl rfl <| qB rfl rfl rfl rfl rfl <| qB rfl rfl rfl rfl rfl <| qO rfl <| op_alloc' rfl zm29 rfl rfl <| qA rfl rfl rfl <| qN <| mwp_seq <| mwp_seq <| qR rfl <| qF rfl rfl rfl fo37_0 <| qL rfl rfl rfl rfl ta3 rfl <| qN <| mwp_block <| mwp_seq <| mwp_seq <| qR rfl <| qC rfl rfl rfl rfl rfl <| qA rfl rfl rfl <| qN ?_
   refine mwp_cond_f rfl (rfl) <| qR rfl <| qC rfl rfl rfl rfl rfl <| qA rfl rfl rfl <| qN <| mwp_cond_f rfl (rfl) <| mwp_seq <| qR rfl <| qC rfl rfl rfl rfl rfl <| qA rfl rfl rfl <| qN <| mwp_cond_f rfl (rfl) <| mwp_seq <| qR rfl <| qC rfl rfl rfl rfl rfl <| qA rfl rfl rfl <| qN <| mwp_cond_f rfl (rfl) <| mwp_seq <| qR rfl <| qC rfl rfl rfl rfl rfl <| qA rfl rfl rfl ?_
   refine qN <| mwp_cond_f rfl (rfl) <| mwp_seq <| qR rfl <| qC rfl rfl rfl rfl rfl <| qA rfl rfl rfl <| qN <| mwp_cond_f rfl (rfl) <| mwp_seq <| qR rfl <| qC rfl rfl rfl rfl rfl <| qA rfl rfl rfl <| qN <| mwp_cond_f rfl (rfl) <| mwp_seq <| qR rfl <| qC rfl rfl rfl rfl rfl <| qA rfl rfl rfl <| qN <| mwp_cond_t rfl (rfl) <| qR rfl <| qL rfl rfl rfl rfl ta37 rfl <| qL rfl rfl rfl rfl ta29 rfl ?_
   refine qL rfl rfl rfl rfl ta29 rfl ?_
   refine wOps_op rfl (op_call rfl rfl rfl co102 ((hof _).mono ?_))
   rintro _ _ ⟨rfl, rfl⟩
   refine qM rfl rfl rfl <| qO rfl <| op_extract rfl rfl rfl <| qO rfl <| op_extract rfl rfl rfl <| qO rfl <| op_store' rfl rfl rfl rfl sz29 rfl rfl (Nat.le_of_ble_eq_true rfl) rfl <| qA rfl rfl rfl <| qN <| mwp_seq <| mwp_seq <| qR rfl <| qM rfl rfl rfl <| qO rfl <| op_if0 rfl Tryz.underlying32 rfl rfl (.inl ⟨rfl, rfl⟩) <| qM rfl rfl rfl <| qL rfl rfl rfl rfl ta29 rfl ?_
   refine wOps_op rfl (op_call rfl rfl rfl co103 ((isLarge_spec n3 m3 s3 c3 w3 _).mono ?_))
   rintro _ _ ⟨rfl, rfl⟩
   refine qP rfl rfl rfl rfl <| qN ?_
   refine mwp_cond_split rfl (fun h69 => ?_) (fun h69 => ?_)
   ·
    refine qR rfl <| qO rfl <| op_makeInterface rfl rfl Tryz.underlying62 (by simp) ?_
    refine qA rfl rfl rfl <| qN <| mwp_seq <| mwp_seq <| qR rfl <| qM rfl rfl rfl <| qO rfl <| op_ifnil rfl Tryz.underlying32 rfl rfl (.inr ⟨rfl, rfl⟩) <| qN <| mwp_cond_t rfl (rfl) <| mwp_seq <| qR rfl <| qO rfl <| op_build rfl Tryz.underlying29 zm29 .nil (by kernel_rfl) ?_
    refine qM rfl rfl rfl <| qO rfl <| op_store' rfl rfl rfl rfl sz29 rfl rfl (Nat.le_of_ble_eq_true rfl) rfl <| qA rfl rfl rfl <| qN <| mwp_ret ?_
    exact ret_cell_tmp (.inr rfl) Tryz.results68 rfl rfl ta29 rfl (.agg (.cons (.refl _) (.cons (.refl _) (.cons (.nil 1) (.cons (.nil 1) (.cons (.nil 5) .nil)))))) (cl_encV _ (noV)) rfl (.refl _) (.iface _ _ (.int _ _)) ⟨by rw [bothF_mk, hBq, cap_t h69]; rfl, rfl⟩
   ·
    refine mwp_skip <| mwp_seq <| mwp_seq <| qR rfl <| qM rfl rfl rfl <| qO rfl <| op_if0 rfl Tryz.underlying32 rfl rfl (.inr ⟨rfl, rfl⟩) <| qN <| mwp_cond_f rfl (rfl) <| mwp_skip <| mwp_seq <| qR rfl <| qL rfl rfl rfl rfl ta29 rfl <| qO rfl <| op_store' rfl rfl rfl rfl sz29 rfl rfl (Nat.le_of_ble_eq_true rfl) rfl <| qA rfl rfl rfl <| qN <| mwp_ret ?_
    exact ret_cell_tmp (.inr rfl) Tryz.results68 rfl rfl ta29 rfl (.refl _) (cl_encV _ (.mk n3 m3 s3 c3 w3)) rfl (.refl _) (.iface0) ⟨by rw [bothF_mk, hBq, cap_f h69]; rfl, rfl⟩
end Go.Proofs.YtlooahbfpmigfaaGreat
end
section
set_option linter.unusedVariables false
set_option linter.unusedSimpArgs false
set_option maxRecDepth 20000
set_option maxHeartbeats 400000
namespace Go.Proofs.YtlooahbfpmigfaaGreat
open Go Go.MV
theorem rBottomV_spec (d : Nat) : d ≤ 16 → ∀ (s : Sch), isF d s = true → ∀ S : MS, MCalls Tryz.prog 66 [encS s] S fun v σ' => v = encV (BottomF s) ∧ σ' = S := by
 induction d with
 | zero => intro _ s h; simp [isF] at h
 | succ d ih =>
 rintro h16 ⟨k, ins⟩ hd S
 have his := isF_le h16 hd
 rw [isF] at hd
 simp only [Bool.and_eq_true, List.all_eq_true, beq_iff_eq] at hd
 refine mcalls_body Tryz.func66 rfl Tryz.ntmps66 (Nat.le_of_ble_eq_true rfl) ?_
 refine mwp_seq <| qR rfl <| qB rfl rfl rfl rfl rfl <| qO rfl <| op_alloc' rfl zm29 rfl rfl <| qN <| mwp_seq <| mwp_seq <| qR rfl <| qL rfl rfl rfl rfl ta37 rfl ?_
 refine wOps_op rfl (op_call rfl rfl rfl co64 ((rIsSchema_spec (.mk k ins) _).mono ?_))
 rintro _ _ ⟨rfl, rfl⟩
 rw [his]
 refine qO rfl <| op_not rfl rfl <| qM rfl rfl rfl <| qF rfl rfl rfl fo37_0 <| qL rfl rfl rfl rfl ta3 rfl <| qC rfl rfl rfl rfl rfl <| qP rfl rfl rfl rfl <| qN ?_
 refine mwp_cond_split rfl (fun h10 => ?_) (fun h10 => ?_)
 ·
  have hk : ¬ k = 5 := by simpa using h10
  have hbot : BottomF (.mk k ins) = noV := by unfold BottomF; rw [if_pos his, bottomF, if_neg hk]
  refine mwp_seq <| qR rfl <| qO rfl <| op_build rfl Tryz.underlying29 zm29 .nil (by kernel_rfl) ?_
  refine qO rfl <| op_store' rfl rfl rfl rfl sz29 rfl rfl (Nat.le_of_ble_eq_true rfl) rfl <| qN <| mwp_ret ?_
  rw [hbot]
  exact ret_cell (y := encV (noV)) (.inr rfl) Tryz.results66 rfl rfl ta29 rfl (.agg (.cons (.refl _) (.cons (.refl _) (.cons (.nil _) (.cons (.nil _) (.cons (.nil _) .nil)))))) (cl_encV _ _) ⟨rfl, rfl⟩
 ·
  have hk : k = 5 := by simpa using h10
  subst hk
  obtain ⟨⟨k1, i1⟩, ⟨k2, i2⟩, rfl⟩ := two_of hd.1
  have his1 := isF_le (by omega : d ≤ 16) (hd.2 (.mk k1 i1) (by simp))
  have his2 := isF_le (by omega : d ≤ 16) (hd.2 (.mk k2 i2) (by simp))
  obtain ⟨⟨n1, m1, s1, c1, w1⟩, e1⟩ : ∃ v, BottomF (.mk k1 i1) = v := ⟨_, rfl⟩
  obtain ⟨⟨n2, m2, s2, c2, w2⟩, e2⟩ : ∃ v, BottomF (.mk k2 i2) = v := ⟨_, rfl⟩
  have ih1 := ih (by omega) (.mk k1 i1) (hd.2 _ (by simp))
  have ih2 := ih (by omega) (.mk k2 i2) (hd.2 _ (by simp))
  simp only [e1] at ih1
  simp only [e2] at ih2
  have hbot : BottomF (.mk 5 [.mk k1 i1, .mk k2 i2]) = .mk 0 0 [] [] [.mk n1 m1 s1 c1 w1, .mk n2 m2 s2 c2 w2] := by
   unfold BottomF at e1 e2 ⊢
   rw [if_pos his1] at e1
   rw [if_pos his2] at e2
   rw [if_pos his, bottomF, if_pos rfl, bottomL, bottomL, bottomL, e1, e2]
  refine mwp_skip <| mwp_seq ?_
  refine mwp_draw [12] [_, S ++ [.cells (encS (.mk 5 [.mk k1 i1, .mk k2 i2])).cells, .cells [.int .u64 0, .int .u64 0, .lst0, .lst0, .lst none 5 [encV (.mk n1 m1 s1 c1 w1), encV (.mk n2 m2 s2 c2 w2)]]]] mo (by decide) rfl rfl rfl rfl ?_
  refine dO rfl rfl rfl (op_fieldAddr_ref rfl rfl fo37_1 ⟨rfl, rfl⟩) <| dO rfl rfl rfl (op_load' rfl rfl rfl ta35 rfl ⟨rfl, rfl⟩) <| dO rfl rfl rfl (op_indexAddr rfl Tryz.underlying35 sz37 (by decide) rfl rfl rfl (show _ = some (encS (.mk k1 i1)) from rfl) ⟨rfl, rfl⟩) ?_
  refine dO rfl rfl rfl (op_load_sptr rfl rfl ta37 rfl ⟨rfl, rfl⟩) <| dOps_op rfl rfl (.cons (op_call rfl rfl rfl co66 (ih1 _)) .nil) <| dO rfl rfl rfl (op_fieldAddr_ref rfl rfl fo37_1 ⟨rfl, rfl⟩) <| dO rfl rfl rfl (op_load' rfl rfl rfl ta35 rfl ⟨rfl, rfl⟩) <| dO rfl rfl rfl (op_indexAddr rfl Tryz.underlying35 sz37 (by decide) rfl rfl rfl (show _ = some (encS (.mk k2 i2)) from rfl) ⟨rfl, rfl⟩) ?_
  refine dO rfl rfl rfl (op_load_sptr rfl rfl ta37 rfl ⟨rfl, rfl⟩) <| dOps_op rfl rfl (.cons (op_call rfl rfl rfl co66 (ih2 _)) .nil) <| dO rfl rfl rfl (op_buildSlice rfl Tryz.underlying27 el29 rfl rfl (by decide) (by decide) rfl rfl ⟨rfl, rfl⟩) ?_
  refine dO rfl rfl rfl (op_build rfl Tryz.underlying29 zm29 (.cons fo29_4 sz27 rfl rfl (Nat.le_of_ble_eq_true rfl) .nil) (by kernel_rfl) ⟨rfl, rfl⟩) ?_
  refine dOps_eff rfl rfl rfl rfl (op_store' rfl rfl rfl rfl sz29 rfl rfl (Nat.le_of_ble_eq_true rfl) rfl ⟨rfl, rfl⟩) <| dOps_nil <| mwp_ret ?_
  rw [hbot]
  exact ret_cell (y := encV (.mk 0 0 [] [] [.mk n1 m1 s1 c1 w1, .mk n2 m2 s2 c2 w2])) (.inr rfl) Tryz.results66 rfl rfl ta29 rfl (.agg (.cons (.refl _) (.cons (.refl _) (.cons (.nil _) (.cons (.nil _) (.cons (.refl _) .nil)))))) (cl_encV _ _) ⟨rfl, rfl⟩
theorem rBottom_spec (s : Sch) (S : MS) : MCalls Tryz.prog 66 [encS s] S fun v σ' => v = encV (BottomF s) ∧ σ' = S := by
 by_cases h : isF 16 s = true
 ·exact rBottomV_spec 16 (by omega) s h S
 ·obtain ⟨k, ins⟩ := s
  replace h : isF 16 (.mk k ins) = false := by simpa using h
  have hbot : BottomF (.mk k ins) = noV := by unfold BottomF; rw [if_neg (by simp [h])]
  refine mcalls_body Tryz.func66 rfl Tryz.ntmps66 (Nat.le_of_ble_eq_true rfl) ?_
  refine mwp_seq <| qR rfl <| qB rfl rfl rfl rfl rfl <| qO rfl <| op_alloc' rfl zm29 rfl rfl <| qN <| mwp_seq <| mwp_seq <| qR rfl <| qL rfl rfl rfl rfl ta37 rfl ?_
  refine wOps_op rfl (op_call rfl rfl rfl co64 ((rIsSchema_spec (.mk k ins) _).mono ?_))
  rintro _ _ ⟨rfl, rfl⟩
  rw [h]
  refine qO rfl <| op_not rfl rfl <| qM rfl rfl rfl <| qS rfl <| qS rfl <| qS rfl <| qP rfl rfl rfl rfl <| qN <| mwp_cond_t rfl (rfl) <| mwp_seq <| qR rfl <| qO rfl <| op_build rfl Tryz.underlying29 zm29 .nil (by kernel_rfl) ?_
  refine qO rfl <| op_store' rfl rfl rfl rfl sz29 rfl rfl (Nat.le_of_ble_eq_true rfl) rfl <| qN <| mwp_ret ?_
  rw [hbot]
  exact ret_cell (y := encV (noV)) (.inr rfl) Tryz.results66 rfl rfl ta29 rfl (.agg (.cons (.refl _) (.cons (.refl _) (.cons (.nil _) (.cons (.nil _) (.cons (.nil _) .nil)))))) (cl_encV _ _) ⟨rfl, rfl⟩
theorem rNone_spec (s : Sch) (x : Val) (S : MS) : MCalls Tryz.prog 54 [encS s, encV x] S fun v σ' => v = .bool (noneF s x) ∧ σ' = S := by
 obtain ⟨k, ins⟩ := s
 obtain ⟨n, m, s, c, w⟩ := x
 refine mcalls_body Tryz.func54 rfl Tryz.ntmps54 (Nat.le_of_ble_eq_true rfl) ?_
 refine mwp_seq <| qR rfl <| qB rfl rfl rfl rfl rfl <| qB rfl rfl rfl rfl rfl <| qA rfl rfl rfl <| qN <| mwp_seq ?_
 refine mwp_draw [] [_] mo (by decide) rfl rfl rfl rfl ?_
 refine dO rfl rfl rfl (op_load' rfl rfl rfl ta29 rfl ⟨rfl, rfl⟩) <| dO rfl rfl rfl (op_load' rfl rfl rfl ta37 rfl ⟨rfl, rfl⟩) <| dOps_op rfl rfl (.cons (op_call rfl rfl rfl co66 (rBottom_spec (.mk k ins) _)) .nil) <| dOps_op rfl rfl (.cons (op_call rfl rfl rfl co26 (rSame_spec (.mk n m s c w) (BottomF (.mk k ins)) _)) .nil) <| dO rfl rfl rfl (op_assign rfl rfl ⟨rfl, rfl⟩) <| dOps_nil <| mwp_ret ?_
 exact ret_tmp (.inr rfl) Tryz.results54 rfl (.of_eq (by unfold noneF; congr 1; rw [Bool.eq_iff_iff]; simp only [decide_eq_true_eq]; exact eq_comm)) (.bool _) ⟨rfl, rfl⟩
end Go.Proofs.YtlooahbfpmigfaaGreat
end
section
set_option linter.unusedVariables false
set_option linter.unusedSimpArgs false
set_option maxRecDepth 20000
set_option maxHeartbeats 400000
namespace Go.Proofs.YtlooahbfpmigfaaGreat
open Go Go.MV
def v3 : Val := .mk 3 0 [] [] []
theorem bottom_is : ∀ (d : Nat) (s : Sch), isF d s = true → isVF s (bottomF s) = true ∧ okV (bottomF s)
 | 0, s, h => by simp [isF] at h
 | d + 1, .mk k ins, h => by
  rw [isF] at h
  simp only [Bool.and_eq_true, List.all_eq_true, beq_iff_eq] at h
  by_cases h5 : k = 5
  ·subst h5
   obtain ⟨a, b, rfl⟩ := two_of h.1
   obtain ⟨h1, h2⟩ := bottom_is d a (h.2 a (by simp))
   obtain ⟨h3, h4⟩ := bottom_is d b (h.2 b (by simp))
   rw [bottomF, if_pos rfl, bottomL, bottomL, bottomL]
   refine ⟨?_, ?_⟩
   ·rw [isVF_mk 5]
    simp [isVL, h1, h3, bareF, numsK, textsK, clocksK, valuesK, Val.nv, Val.mv, Val.sv, Val.cv, Val.vv]
   ·simp [okV, okVs, h2, h4]
  ·rw [bottomF, if_neg h5]
   refine ⟨?_, by simp [noV, okV, okVs]⟩
   have hk := k8_of h.1
   unfold noV
   rw [isVF_mk k]
   rcases hk with rfl | rfl | rfl | rfl | rfl | rfl | rfl | rfl
   ·rfl
   ·rfl
   ·rfl
   ·simp [bareF, numsK, textsK, clocksK, valuesK, Val.nv, Val.mv, Val.sv, Val.cv, Val.vv, isRowF, risesF, shortF]
   ·exact absurd rfl h5
   ·rfl
   ·rfl
   ·simp [bareF, numsK, textsK, clocksK, valuesK, Val.nv, Val.mv, Val.sv, Val.cv, Val.vv, isCauseF, pairsF]
end Go.Proofs.YtlooahbfpmigfaaGreat
end
section
set_option linter.unusedVariables false
set_option linter.unusedSimpArgs false
set_option maxRecDepth 20000
set_option maxHeartbeats 400000
namespace Go.Proofs.YtlooahbfpmigfaaGreat
open Go Go.MV
theorem join_err {s : Sch} {a b : Val} (h : ¬ ((isF 16 s && isVF s a) = true ∧ (isF 16 s && isVF s b) = true)) : joinVF s a b = .error 14 := by unfold joinVF; rw [if_neg h]
theorem join_both {s : Sch} {a b : Val} (ha : (isF 16 s && isVF s a) = true) (hb : (isF 16 s && isVF s b) = true) : encJ (joinVF s a b) = encO (bothF s a b) := by
 unfold joinVF
 rw [if_pos ⟨ha, hb⟩]
 cases bothF s a b <;> rfl
theorem okV_no : okV noV := by simp [okV, okVs, noV]
theorem okV_join {s : Sch} {a b v : Val} (ha : okV a) (hb : okV b) (h : joinVF s a b = .ok v) : okV v := by
 unfold joinVF at h
 split at h
 ·rename_i hh
  rw [Bool.and_eq_true] at hh
  cases hO : bothF s a b with
  | none => rw [hO] at h; cases h
  | some u => rw [hO] at h; injection h with h; subst h; exact okV_both 16 s hh.1.1 a b u ha hb hO
 ·cases h
noncomputable def accA (s : Sch) (b : Val) (l : List Val) : Nat → Val
 | 0 => b
 | j + 1 => match joinVF s (accA s b l j) (l.getD j noV) with | .ok v => v | .error _ => noV
noncomputable def okA (s : Sch) (b : Val) (l : List Val) (j : Nat) : Bool := match joinVF s (accA s b l j) (l.getD j noV) with | .ok _ => true | .error _ => false
noncomputable def errA (s : Sch) (b : Val) (l : List Val) (j : Nat) : Int := match joinVF s (accA s b l j) (l.getD j noV) with | .ok _ => 0 | .error e => e
noncomputable def allGo (s : Sch) : Val → List Val → Except Int Val
 | acc, [] => .ok acc
 | acc, x :: l => match joinVF s acc x with | .ok v => allGo s v l | .error e => .error e
noncomputable def AllF (s : Sch) (l : List Val) : Except Int Val := if isF 16 s then allGo s (BottomF s) l else .error 14
theorem getD_at {l : List Val} {j : Nat} {x : Val} (h : l[j]? = some x) : l.getD j noV = x := by simp [h]
theorem okA_iff {s : Sch} {b : Val} {l : List Val} {j : Nat} {x : Val} (hx : l[j]? = some x) (h : okA s b l j = true) : joinVF s (accA s b l j) x = .ok (accA s b l (j + 1)) := by
 rw [okA, getD_at hx] at h
 rw [accA, getD_at hx]
 cases hj : joinVF s (accA s b l j) x with
 | ok v => rfl
 | error e => rw [hj] at h; cases h
theorem all_at {s : Sch} {b : Val} {l : List Val} : ∀ {j : Nat}, j ≤ l.length → (∀ i, i < j → okA s b l i = true) → allGo s b l = allGo s (accA s b l j) (l.drop j)
 | 0, _, _ => rfl
 | j + 1, hj, h => by
  obtain ⟨x, hx⟩ : ∃ x, l[j]? = some x := ⟨_, List.getElem?_eq_getElem (by omega)⟩
  rw [all_at (j := j) (by omega) fun i hi => h i (by omega), drop_at hx, allGo, okA_iff hx (h j (by omega))]
theorem all_ok {s : Sch} {b : Val} {l : List Val} (h : ∀ i, i < l.length → okA s b l i = true) : allGo s b l = .ok (accA s b l l.length) := by
 rw [all_at (Nat.le_refl _) h, List.drop_length]; rfl
theorem first_no (p : Nat → Bool) : ∀ n, p n = false → ∃ m, m ≤ n ∧ p m = false ∧ ∀ i, i < m → p i = true
 | 0, h => ⟨0, Nat.le_refl _, h, fun i hi => by omega⟩
 | n + 1, h => by
  by_cases hq : ∀ i, i < n + 1 → p i = true
  ·exact ⟨n + 1, Nat.le_refl _, h, hq⟩
  ·obtain ⟨i, hi, hp⟩ : ∃ i, i < n + 1 ∧ p i = false := by
    rcases Classical.not_forall.1 hq with ⟨i, hq⟩
    exact ⟨i, Classical.not_imp.1 hq |>.1, by simpa using (Classical.not_imp.1 hq).2⟩
   obtain ⟨m, h1, h2, h3⟩ := first_no p i hp
   exact ⟨m, by omega, h2, h3⟩
theorem all_bad {s : Sch} {b : Val} {l : List Val} {j : Nat} {x : Val} (hx : l[j]? = some x) (hb : ∀ i, i < j → okA s b l i = true) (h : okA s b l j = false) : allGo s b l = .error (errA s b l j) := by
 have hj := (List.getElem?_eq_some_iff.1 hx).1
 rw [all_at (j := j) (by omega) hb, drop_at hx, allGo, errA, getD_at hx]
 rw [okA, getD_at hx] at h
 cases hq : joinVF s (accA s b l j) x with
 | ok v => rw [hq] at h; cases h
 | error e => rfl
noncomputable def errF (s : Sch) (b : Val) (l : List Val) : Int := match allGo s b l with | .ok _ => 0 | .error e => e
theorem errF_eq {s : Sch} {b : Val} {l : List Val} {j : Nat} {x : Val} (hx : l[j]? = some x) (hb : ∀ i, i < j → okA s b l i = true) (h : okA s b l j = false) : errF s b l = errA s b l j := by rw [errF, all_bad hx hb h]
theorem all_badF {s : Sch} {b : Val} {l : List Val} {j : Nat} {x : Val} (hx : l[j]? = some x) (h : okA s b l j = false) : allGo s b l = .error (errF s b l) := by
 obtain ⟨m, hm, hp, hbm⟩ := first_no _ j h
 have hj := (List.getElem?_eq_some_iff.1 hx).1
 obtain ⟨y, hy⟩ : ∃ y, l[m]? = some y := ⟨_, List.getElem?_eq_getElem (by omega)⟩
 rw [errF, all_bad hy hbm hp]
theorem accA_ok {s : Sch} {b : Val} {l : List Val} (hb : okV b) (hl : ∀ x ∈ l, okV x) : ∀ j, j ≤ l.length → (∀ i, i < j → okA s b l i = true) → okV (accA s b l j)
 | 0, _, _ => hb
 | j + 1, hj, h => by
  obtain ⟨x, hx⟩ : ∃ x, l[j]? = some x := ⟨_, List.getElem?_eq_getElem (by omega)⟩
  exact okV_join (accA_ok hb hl j (by omega) fun i hi => h i (by omega)) (hl x (List.mem_of_getElem? hx)) (okA_iff hx (h j (by omega)))
theorem get_box4 {A R : MS} {a b c d a' b' c' d' e : MObj} : ((A ++ [a, b, c, d, e]) ++ R)[(A ++ [a', b', c', d']).length]? = some e := by rw [List.length_append, List.append_assoc, getElem?_own]; rfl
theorem okV_bottom (s : Sch) : okV (BottomF s) := by
 unfold BottomF
 split
 ·rename_i h; exact (bottom_is 16 s h).2
 ·exact okV_no
theorem all_cl {s : Sch} {v : Val} {l : List Val} {e : MV} {o : MObj} {d : Nat} (he : Cl d e) (ho : o ∈ [MObj.cells (encS s).cells, .cells [.int .u64 0, .int .u64 0, .lst0, .lst0, .lst0], .cells [e], .cells (encV v).cells, .cells [.lst none 5 (encVs l)]]) : o.cl d := by
 simp only [List.mem_cons, List.not_mem_nil, or_false] at ho
 rcases ho with rfl | rfl | rfl | rfl | rfl
 ·exact clo_S _ _
 ·exact clo_Z _
 ·exact clo_1 he
 ·exact clo_V _ _
 ·exact clo_1 (cl_encVl _ _)
theorem join_spec (s : Sch) (a b : Val) (ha : okV a) (hb : okV b) (S : MS) : MCalls Tryz.prog 44 [encS s, encV a, encV b] S fun v σ' => v = encJ (joinVF s a b) ∧ σ' = S := by
 obtain ⟨k, ins⟩ := s
 obtain ⟨n1, m1, s1, c1, w1⟩ := a
 obtain ⟨n2, m2, s2, c2, w2⟩ := b
 refine mcalls_body Tryz.func44 rfl Tryz.ntmps44 (Nat.le_of_ble_eq_true rfl) ?_
 refine mwp_seq <| qR rfl <| qB rfl rfl rfl rfl rfl <| qB rfl rfl rfl rfl rfl <| qB rfl rfl rfl rfl rfl <| qO rfl <| op_alloc' rfl zm29 rfl rfl <| qA rfl rfl rfl <| qN <| mwp_seq <| mwp_seq <| qR rfl <| qL rfl rfl rfl rfl ta37 rfl <| qL rfl rfl rfl rfl ta29 rfl ?_
 refine wOps_op rfl (op_call rfl rfl rfl co49 ((valIs_spec (.mk k ins) (.mk n1 m1 s1 c1 w1) ha _).mono ?_))
 rintro _ _ ⟨rfl, rfl⟩
 refine qO rfl <| op_not rfl rfl <| qM rfl rfl rfl ?_
 refine wOps_case (fun h12 => ?_) (fun h12 => ?_)
 ·
  refine qS rfl <| qS rfl <| qS rfl <| qS rfl <| qP rfl rfl rfl rfl <| qN <| mwp_cond_t rfl (rfl) <| mwp_seq <| qR rfl <| qO rfl <| op_build rfl Tryz.underlying29 zm29 .nil (by kernel_rfl) ?_
  refine qO rfl <| op_makeInterface rfl rfl Tryz.underlying62 (by simp) ?_
  refine qO rfl <| op_store' rfl rfl rfl rfl sz29 rfl rfl (Nat.le_of_ble_eq_true rfl) rfl <| qA rfl rfl rfl <| qN <| mwp_ret ?_
  exact ret_cell_tmp (.inr rfl) Tryz.results44 rfl rfl ta29 rfl (.agg (.cons (.refl _) (.cons (.refl _) (.cons (.nil 1) (.cons (.nil 1) (.cons (.nil 5) .nil)))))) (cl_encV _ (noV)) rfl (.refl _) (.iface _ _ (.int _ _)) ⟨by rw [join_err (fun hq => by first | (rw [hq.1] at h12; exact absurd h12 (by decide)) | (rw [hq.2] at h17; exact absurd h17 (by decide)))]; rfl, rfl⟩
 ·
  refine qL rfl rfl rfl rfl ta37 rfl <| qL rfl rfl rfl rfl ta29 rfl ?_
  refine wOps_op rfl (op_call rfl rfl rfl co49 ((valIs_spec (.mk k ins) (.mk n2 m2 s2 c2 w2) hb _).mono ?_))
  rintro _ _ ⟨rfl, rfl⟩
  refine qO rfl <| op_not rfl rfl <| qP rfl rfl rfl rfl <| qN ?_
  refine mwp_cond_split rfl (fun h17 => ?_) (fun h17 => ?_)
  ·
   refine mwp_seq <| qR rfl <| qO rfl <| op_build rfl Tryz.underlying29 zm29 .nil (by kernel_rfl) ?_
   refine qO rfl <| op_makeInterface rfl rfl Tryz.underlying62 (by simp) ?_
   refine qO rfl <| op_store' rfl rfl rfl rfl sz29 rfl rfl (Nat.le_of_ble_eq_true rfl) rfl <| qA rfl rfl rfl <| qN <| mwp_ret ?_
   exact ret_cell_tmp (.inr rfl) Tryz.results44 rfl rfl ta29 rfl (.agg (.cons (.refl _) (.cons (.refl _) (.cons (.nil 1) (.cons (.nil 1) (.cons (.nil 5) .nil)))))) (cl_encV _ (noV)) rfl (.refl _) (.iface _ _ (.int _ _)) ⟨by rw [join_err (fun hq => by first | (rw [hq.1] at h12; exact absurd h12 (by decide)) | (rw [hq.2] at h17; exact absurd h17 (by decide)))]; rfl, rfl⟩
  ·
   refine mwp_skip <| mwp_seq ?_
   have ha2 : (isF 16 (.mk k ins) && isVF (.mk k ins) (.mk n1 m1 s1 c1 w1)) = true := by simpa using h12
   have hb2 : (isF 16 (.mk k ins) && isVF (.mk k ins) (.mk n2 m2 s2 c2 w2)) = true := by simpa using h17
   have hof := both_spec 16 (.mk k ins) (by rw [Bool.and_eq_true] at ha2; exact ha2.1) (.mk n1 m1 s1 c1 w1) (.mk n2 m2 s2 c2 w2) (by rw [Bool.and_eq_true] at ha2; exact ha2.2) (by rw [Bool.and_eq_true] at hb2; exact hb2.2)
   obtain ⟨n3, m3, s3, c3, w3, h3⟩ := encO_of (bothF (.mk k ins) (.mk n1 m1 s1 c1 w1) (.mk n2 m2 s2 c2 w2))
   have hO : encO (bothF (.mk k ins) (.mk n1 m1 s1 c1 w1) (.mk n2 m2 s2 c2 w2)) = .tup [encV (.mk n3 m3 s3 c3 w3), errO (bothF (.mk k ins) (.mk n1 m1 s1 c1 w1) (.mk n2 m2 s2 c2 w2))] := by rw [encO, h3]
   rw [hO] at hof
   refine qR rfl <| qL rfl rfl rfl rfl ta37 rfl <| qL rfl rfl rfl rfl ta29 rfl <| qL rfl rfl rfl rfl ta29 rfl ?_
   refine wOps_op rfl (op_call rfl rfl rfl co68 ((hof _).mono ?_))
   rintro _ _ ⟨rfl, rfl⟩
   refine qO rfl <| op_extract rfl rfl rfl <| qO rfl <| op_extract rfl rfl rfl <| qO rfl <| op_store' rfl rfl rfl rfl sz29 rfl rfl (Nat.le_of_ble_eq_true rfl) rfl <| qA rfl rfl rfl <| qN <| mwp_ret ?_
   exact ret_cell_tmp (.inr rfl) Tryz.results44 rfl rfl ta29 rfl (.refl _) (cl_encV _ (.mk n3 m3 s3 c3 w3)) rfl (.refl _) ((cl_errO _ _)) ⟨by rw [join_both ha2 hb2, hO]; rfl, rfl⟩
theorem joinAll_spec (s : Sch) (l : List Val) (hl : ∀ x ∈ l, okV x) (S : MS) : MCalls Tryz.prog 31 [encS s, .lst none 5 (encVs l)] S fun v σ' => v = encJ (AllF s l) ∧ σ' = S := by
 obtain ⟨k, ins⟩ := s
 obtain ⟨⟨bn, bm, bs, bc, bw⟩, hbe⟩ : ∃ v, BottomF (.mk k ins) = v := ⟨_, rfl⟩
 have hbo := okV_bottom (.mk k ins)
 rw [hbe] at hbo
 have hbs := Bottom_spec (.mk k ins)
 rw [hbe] at hbs
 refine mcalls_body Tryz.func31 rfl Tryz.ntmps31 (Nat.le_of_ble_eq_true rfl) ?_
 refine mwp_seq <| qR rfl <| qB rfl rfl rfl rfl rfl <| qO rfl <| op_alloc' rfl zm29 rfl rfl <| qO rfl <| op_alloc' rfl zm32 rfl rfl <| qN <| mwp_seq <| mwp_seq <| qR rfl <| qL rfl rfl rfl rfl ta37 rfl ?_
 refine wOps_op rfl (op_call rfl rfl rfl co55 ((Is_spec (.mk k ins) _).mono ?_))
 rintro _ _ ⟨rfl, rfl⟩
 refine qO rfl <| op_not rfl rfl <| qN ?_
 refine mwp_cond_split rfl (fun h12 => ?_) (fun h12 => ?_)
 ·
  have hk : isF 16 (.mk k ins) = false := by simpa using h12
  refine mwp_seq <| qR rfl <| qO rfl <| op_build rfl Tryz.underlying29 zm29 .nil (by kernel_rfl) ?_
  refine qO rfl <| op_makeInterface rfl rfl Tryz.underlying62 (by simp) ?_
  refine qO rfl <| op_store' rfl rfl rfl rfl sz29 rfl rfl (Nat.le_of_ble_eq_true rfl) rfl <| qO rfl <| op_store' rfl rfl rfl rfl sz32 rfl rfl (Nat.le_of_ble_eq_true rfl) rfl <| qN <| mwp_ret ?_
  exact ret_cell_cell (.inr rfl) Tryz.results31 rfl rfl ta29 rfl (.agg (.cons (.refl _) (.cons (.refl _) (.cons (.nil 1) (.cons (.nil 1) (.cons (.nil 5) .nil)))))) (cl_encV _ (noV)) rfl rfl ta32 rfl (.refl _) (.iface _ _ (.int _ _)) ⟨by rw [show AllF (.mk k ins) l = .error 14 from by unfold AllF; rw [if_neg (by rw [hk]; decide)]]; rfl, rfl⟩
 ·
  have hk : isF 16 (.mk k ins) = true := by simpa using h12
  have hAF : AllF (.mk k ins) l = allGo (.mk k ins) (.mk bn bm bs bc bw) l := by unfold AllF; rw [if_pos hk, hbe]
  refine mwp_skip <| mwp_seq <| qR rfl <| qL rfl rfl rfl rfl ta37 rfl ?_
  refine wOps_op rfl (op_call rfl rfl rfl co56 ((hbs _).mono ?_))
  rintro _ _ ⟨rfl, rfl⟩
  refine qO rfl <| op_alloc' rfl zm29 rfl rfl <| qO rfl <| op_store' rfl rfl rfl rfl sz29 rfl rfl (Nat.le_of_ble_eq_true rfl) rfl <| qN <| mwp_seq <| mwp_seq <| qR rfl <| qM rfl rfl rfl ?_
  refine wOps_op rfl (op_call rfl rfl rfl co57 ((values_spec l _).mono ?_))
  rintro _ _ ⟨rfl, rfl⟩
  rw [List.append_assoc S]
  refine qN <| mwp_block ?_
  refine mwp_len (t := 1) rfl fun hlen => ?_
  rw [encVs_length] at hlen
  refine mwp_rangeB (ok := fun σ => σ.length = S.length + 6 ∧ σ[(S ++ [MObj.cells (encS (.mk k ins)).cells, MObj.cells [.int .u64 0, .int .u64 0, .lst0, .lst0, .lst0], MObj.cells [.iface0], .cells (encV (.mk bn bm bs bc bw)).cells]).length]? = some (.cells [.lst none 5 (encVs l)])) (ys := l.map fun x => [encV x]) .ret (.inl rfl) (fun j => okA (.mk k ins) (.mk bn bm bs bc bw) l j) (fun j => ([.cells (encS (.mk k ins)).cells, .cells [.int .u64 0, .int .u64 0, .lst0, .lst0, .lst0], .cells [.iface0], .cells (encV (accA (.mk k ins) (.mk bn bm bs bc bw) l j)).cells, .cells [.lst none 5 (encVs l)]] : MS)) (fun j => ([.cells (encS (.mk k ins)).cells, .cells [.int .u64 0, .int .u64 0, .lst0, .lst0, .lst0], .cells [encErr (errF (.mk k ins) (.mk bn bm bs bc bw) l)], .cells (encV (accA (.mk k ins) (.mk bn bm bs bc bw) l j)).cells, .cells [.lst none 5 (encVs l)]] : MS)) (fun j => rfl) (fun j => rfl) rfl (fun j o ho n hn => all_cl .iface0 ho) (fun j o ho n hn => all_cl (.iface _ _ (.int _ _)) ho) rfl co84 rfl (by simp) (values_iter l hlen _ _) (fun j => ⟨by simp only [List.length_append, List.length_cons, List.length_nil], get_box4⟩) (fun j s q => ⟨by simp only [List.length_append, List.length_cons, List.length_nil], get_box4⟩) rfl (fun y hy => by obtain ⟨i, _, rfl⟩ := List.mem_map.1 hy; rfl) ?_ ?_ ?_
  ·
   intro j y hy hbef L'
   rw [List.getElem?_map] at hy
   obtain ⟨⟨n1, m1, s1, c1, w1⟩, hs, rfl⟩ := Option.map_eq_some_iff.1 hy
   have hjl := (List.getElem?_eq_some_iff.1 hs).1
   have hov := accA_ok (s := .mk k ins) hbo hl j (by omega) hbef
   obtain ⟨⟨n2, m2, s2, c2, w2⟩, hacc⟩ : ∃ v, accA (.mk k ins) (.mk bn bm bs bc bw) l j = v := ⟨_, rfl⟩
   rw [hacc] at hov
   have hof := join_spec (.mk k ins) _ _ hov (hl _ (List.mem_of_getElem? hs))
   have hD := getD_at hs
   simp only [hacc]
   refine qR rfl <| qO rfl <| op_alloc rfl zm29 <| qO rfl <| op_store_last rfl rfl rfl sz29 rfl rfl (Nat.le_of_ble_eq_true rfl) <| qN ?_
   refine ⟨rfl, [_], rfl, ?_⟩
   rw [List.append_assoc (S ++ _)]
   refine mwp_abs fun R hR => ?_
   refine mwp_block <| mwp_seq ?_
   rcases hj : joinVF (.mk k ins) (.mk n2 m2 s2 c2 w2) (.mk n1 m1 s1 c1 w1) with e | ⟨n3, m3, s3, c3, w3⟩ <;> rw [hj] at hof
   ·
    refine qR rfl <| qO rfl <| op_load_mid rfl rfl rfl ta37 rfl <| qO rfl <| op_load_mid rfl rfl rfl ta29 rfl <| qO rfl <| op_load_ref rfl rfl (by rw [hR]; exact get_rt) ta29 rfl ?_
    refine wOps_op rfl (op_call rfl rfl rfl co44 ((hof _).mono ?_))
    rintro _ _ ⟨rfl, rfl⟩
    refine qM rfl rfl rfl <| qO rfl <| op_extract rfl rfl rfl <| qO rfl <| op_extract rfl rfl rfl <| qO rfl <| op_alloc rfl zm29 <| qO rfl <| op_store_last rfl rfl rfl sz29 rfl rfl (Nat.le_of_ble_eq_true rfl) <| qA rfl rfl rfl <| qN <| mwp_seq <| mwp_seq <| qR rfl <| qM rfl rfl rfl <| qO rfl <| op_ifnil rfl Tryz.underlying32 rfl rfl (.inr ⟨rfl, rfl⟩) <| qN <| mwp_cond_t rfl (rfl) <| mwp_seq ?_
    rw [List.append_assoc (S ++ _)]
    refine qR rfl <| qO rfl <| op_build rfl Tryz.underlying29 zm29 .nil (by kernel_rfl) ?_
    refine qM rfl rfl rfl <| qO rfl <| op_store_mid rfl rfl rfl rfl sz29 rfl rfl (Nat.le_of_ble_eq_true rfl) rfl <| qO rfl <| op_store_mid rfl rfl rfl rfl sz32 rfl rfl (Nat.le_of_ble_eq_true rfl) rfl <| qN <| mwp_ret ?_
    exact .inr ⟨by rw [okA, hacc, hD, hj], rfl, [_, _], by rw [hR, show errF (.mk k ins) (.mk bn bm bs bc bw) l = e from by rw [errF_eq hs hbef (by rw [okA, hacc, hD, hj]), errA, hacc, hD, hj]]; simp only [List.append_assoc, List.cons_append, List.nil_append]; rfl⟩
   ·
    refine qR rfl <| qO rfl <| op_load_mid rfl rfl rfl ta37 rfl <| qO rfl <| op_load_mid rfl rfl rfl ta29 rfl <| qO rfl <| op_load_ref rfl rfl (by rw [hR]; exact get_rt) ta29 rfl ?_
    refine wOps_op rfl (op_call rfl rfl rfl co44 ((hof _).mono ?_))
    rintro _ _ ⟨rfl, rfl⟩
    refine qM rfl rfl rfl <| qO rfl <| op_extract rfl rfl rfl <| qO rfl <| op_extract rfl rfl rfl <| qO rfl <| op_alloc rfl zm29 <| qO rfl <| op_store_last rfl rfl rfl sz29 rfl rfl (Nat.le_of_ble_eq_true rfl) <| qA rfl rfl rfl <| qN <| mwp_seq <| mwp_seq <| qR rfl <| qM rfl rfl rfl <| qO rfl <| op_if0 rfl Tryz.underlying32 rfl rfl (.inr ⟨rfl, rfl⟩) <| qN <| mwp_cond_f rfl (rfl) <| mwp_skip ?_
    rw [List.append_assoc (S ++ _)]
    refine qR rfl <| qO rfl <| op_load_ref rfl rfl (get_end (by simp)) ta29 rfl ?_
    refine qO rfl <| op_store_mid rfl rfl rfl rfl sz29 rfl rfl (Nat.le_of_ble_eq_true rfl) rfl <| qN ?_
    exact .inl ⟨by rw [okA, hacc, hD, hj], rfl, [_, _], by rw [hR, show accA (.mk k ins) (.mk bn bm bs bc bw) l (j + 1) = .mk n3 m3 s3 c3 w3 from by rw [accA, hacc, hD, hj]]; simp only [List.append_assoc, List.cons_append, List.nil_append]; rfl⟩
  ·
   intro hall
   rw [List.append_assoc S, List.length_map]
   have hok := all_ok (s := .mk k ins) (b := (.mk bn bm bs bc bw)) (l := l) (fun i hi => hall i (by rw [List.length_map]; exact hi))
   obtain ⟨⟨n2, m2, s2, c2, w2⟩, hacc⟩ : ∃ v, accA (.mk k ins) (.mk bn bm bs bc bw) l l.length = v := ⟨_, rfl⟩
   rw [hacc] at hok
   simp only [hacc]
   refine mwp_seq <| qR rfl <| qL rfl rfl rfl rfl ta29 rfl <| qO rfl <| op_store' rfl rfl rfl rfl sz29 rfl rfl (Nat.le_of_ble_eq_true rfl) rfl <| qO rfl <| op_store' rfl rfl rfl rfl sz32 rfl rfl (Nat.le_of_ble_eq_true rfl) rfl <| qN <| mwp_ret ?_
   exact ret_cell_cell (.inr rfl) Tryz.results31 rfl rfl ta29 rfl (.refl _) (cl_encV _ (.mk n2 m2 s2 c2 w2)) rfl rfl ta32 rfl (.refl _) (.iface0) ⟨by rw [hAF, hok]; rfl, rfl⟩
  ·
   intro j y hy hp
   rw [List.append_assoc S]
   rw [List.getElem?_map] at hy
   obtain ⟨x, hs, rfl⟩ := Option.map_eq_some_iff.1 hy
   exact ret_cell_cell (.inr rfl) Tryz.results31 rfl rfl ta29 rfl (.agg (.cons (.refl _) (.cons (.refl _) (.cons (.nil 1) (.cons (.nil 1) (.cons (.nil 5) .nil)))))) (cl_encV _ (noV)) rfl rfl ta32 rfl (.refl _) (.iface _ _ (.int _ _)) ⟨by rw [hAF, all_badF hs hp]; rfl, rfl⟩
end Go.Proofs.YtlooahbfpmigfaaGreat
end
section
set_option linter.unusedVariables false
set_option linter.unusedSimpArgs false
set_option maxRecDepth 20000
namespace Go.Proofs.YtlooahbfpmigfaaGreat
open Go Go.MV
def mapL (l : List (Bs × Val)) : Val := .mk 0 0 (l.map (·.1)) [] (l.map (·.2))
def cauL (l : List (List Tk × Val)) : Val := .mk 0 0 [] (l.map (·.1)) (l.map (·.2))
theorem zip_map {κ : Type} (l : List (κ × Val)) : (l.map (·.1)).zip (l.map (·.2)) = l := by
  induction l with
  | nil => rfl
  | cons e l ih => simp [ih]
theorem map_zip {κ : Type} : ∀ {a : List κ} {b : List Val}, a.length = b.length → (a.zip b).map (·.1) = a ∧ (a.zip b).map (·.2) = b
  | [], [], _ => ⟨rfl, rfl⟩
  | x :: a, y :: b, h => by
    have := map_zip (a := a) (b := b) (by simpa using h)
    simp [this.1, this.2]
theorem entX_map_ (l : List (Bs × Val)) : entX (mapL l) = l := zip_map l
theorem entC_cau (l : List (List Tk × Val)) : entC (cauL l) = l := zip_map l
theorem mapL_ent {s : List Bs} {w : List Val} (h : s.length = w.length) : mapL (s.zip w) = .mk 0 0 s [] w := by unfold mapL; rw [(map_zip h).1, (map_zip h).2]
theorem cauL_ent {c : List (List Tk)} {w : List Val} (h : c.length = w.length) : cauL (c.zip w) = .mk 0 0 [] c w := by unfold cauL; rw [(map_zip h).1, (map_zip h).2]
def ClkOk (c : List Tk) : Prop := Go.MV.Up c ∧ Go.MV.Pos c ∧ ∀ t ∈ c, 0 ≤ t.1 ∧ t.1 ≤ 1000000
theorem up_at {c : List Tk} (h : Go.MV.Up c) {j : Nat} {p t : Tk} (hp : c[j]? = some p) (ht : c[j + 1]? = some t) : p.1 < t.1 := by
  obtain ⟨h1, e1⟩ := List.getElem?_eq_some_iff.1 hp
  obtain ⟨h2, e2⟩ := List.getElem?_eq_some_iff.1 ht
  have := List.pairwise_iff_getElem.1 h j (j + 1) h1 h2 (by omega)
  rw [e1, e2] at this
  exact this
theorem isClock_iff {c : List Tk} (hu : ∀ t ∈ c, okTk t) : isClockF c = true ↔ ClkOk c ∧ c.length ≤ 40 := by
  constructor
  · intro h
    obtain ⟨h1, h2, h3⟩ := isClock_spec h hu
    refine ⟨⟨h1, h2, fun t ht => ?_⟩, h3⟩
    unfold isClockF at h
    rw [Bool.and_eq_true, decide_eq_true_eq] at h
    obtain ⟨j, hj, rfl⟩ := List.mem_iff_getElem.1 ht
    have := h.1 j hj
    unfold okAt at this
    rw [List.getElem?_eq_getElem hj] at this
    simp only [Bool.and_eq_true, Bool.not_eq_true', decide_eq_false_iff_not] at this
    omega
  · rintro ⟨⟨h1, h2, h3⟩, h4⟩
    unfold isClockF
    rw [Bool.and_eq_true, decide_eq_true_eq, decide_eq_true_eq]
    refine ⟨fun j hj => ?_, h4⟩
    unfold okAt
    rw [List.getElem?_eq_getElem hj]
    have hm := List.getElem_mem hj
    have a1 := h3 _ hm
    have a2 := h2 _ hm
    simp only [Bool.and_eq_true, Bool.not_eq_true', decide_eq_false_iff_not, Bool.or_eq_true, beq_eq_false_iff_ne, ne_eq]
    refine ⟨⟨⟨by omega, by omega⟩, by omega⟩, ?_⟩
    cases j with
    | zero => exact .inl rfl
    | succ j =>
      refine .inr ?_
      rw [Nat.add_sub_cancel, List.getElem?_eq_getElem (by omega : j < c.length)]
      have := up_at h1 (List.getElem?_eq_getElem (by omega : j < c.length)) (List.getElem?_eq_getElem hj)
      simp only [Bool.not_eq_true', decide_eq_false_iff_not]
      omega
theorem clkOk_join {a b : List Tk} (ha : ClkOk a) (hb : ClkOk b) : ClkOk (joinF a b) := by
  obtain ⟨h1, h2, _⟩ := join_laws _ (Nat.le_refl _) ha.1 hb.1 ha.2.1 hb.2.1
  refine ⟨h1, h2, fun t ht => ?_⟩
  rcases join_mem _ (Nat.le_refl _) t ht with ⟨s, hs, e⟩ | ⟨s, hs, e⟩
  · rw [← e]; exact ha.2.2 s hs
  · rw [← e]; exact hb.2.2 s hs
theorem clk_ext {a b : List Tk} (ha : ClkOk a) (hb : ClkOk b) (h : ∀ w, ofF a w = ofF b w) : a = b := clock_ext ha.1 hb.1 ha.2.1 hb.2.1 h
theorem of_join {a b : List Tk} (ha : ClkOk a) (hb : ClkOk b) (w : Int) : ofF (joinF a b) w = max (ofF a w) (ofF b w) := (join_laws _ (Nat.le_refl _) ha.1 hb.1 ha.2.1 hb.2.1).2.2 w
theorem clk_comm {a b : List Tk} (ha : ClkOk a) (hb : ClkOk b) : joinF a b = joinF b a := clk_ext (clkOk_join ha hb) (clkOk_join hb ha) fun w => by rw [of_join ha hb, of_join hb ha]; omega
theorem clk_assoc {a b c : List Tk} (ha : ClkOk a) (hb : ClkOk b) (hc : ClkOk c) : joinF (joinF a b) c = joinF a (joinF b c) := clk_ext (clkOk_join (clkOk_join ha hb) hc) (clkOk_join ha (clkOk_join hb hc)) fun w => by
  rw [of_join (clkOk_join ha hb) hc, of_join ha hb, of_join ha (clkOk_join hb hc), of_join hb hc]; omega
theorem clk_idem {a : List Tk} (ha : ClkOk a) : joinF a a = a := clk_ext (clkOk_join ha ha) ha fun w => by rw [of_join ha ha]; omega
def blwC (a b : List Tk) : Prop := cmpF a b = -1
theorem blw_iff {a b : List Tk} (ha : ClkOk a) (hb : ClkOk b) : blwC a b ↔ a ≠ b ∧ ∀ w, ofF a w ≤ ofF b w := by
  unfold blwC cmpF
  have hj : joinF a b = b ↔ ∀ w, ofF a w ≤ ofF b w := by
    constructor
    · intro h w
      have := of_join ha hb w
      rw [h] at this
      omega
    · intro h
      exact clk_ext (clkOk_join ha hb) hb fun w => by rw [of_join ha hb]; have := h w; omega
  by_cases he : a = b
  · simp [he]
  · rw [if_neg he]
    by_cases h : joinF a b = b
    · rw [if_pos h]; simp [he, hj.1 h]
    · rw [if_neg h]
      have h' : ¬ ∀ w, ofF a w ≤ ofF b w := fun h2 => h (hj.2 h2)
      split <;> simp [h']
theorem poC : PoK blwC ClkOk where
  irr a ha h := ((blw_iff ha ha).1 h).1 rfl
  tr a b c ha hb hc h1 h2 := by
    have k1 := (blw_iff ha hb).1 h1
    have k2 := (blw_iff hb hc).1 h2
    refine (blw_iff ha hc).2 ⟨fun e => ?_, fun w => Int.le_trans (k1.2 w) (k2.2 w)⟩
    subst e
    exact k1.1 (clk_ext ha hb fun w => Int.le_antisymm (k1.2 w) (k2.2 w))
theorem cmp_two {a b : List Tk} (ha : ClkOk a) (hb : ClkOk b) : cmpF a b = 2 ↔ a ≠ b ∧ ¬ blwC a b ∧ ¬ blwC b a := by
  have hc := clk_comm ha hb
  unfold blwC cmpF
  rw [← hc]
  by_cases he : a = b
  · simp [he]
  · have he' : ¬ b = a := fun e => he e.symm
    rw [if_neg he, if_neg he']
    by_cases h1 : joinF a b = b <;> by_cases h2 : joinF a b = a
    · exact absurd (h2.symm.trans h1) he
    · simp [h1, he, he']
    · simp [h2, he, he']
    · simp [h1, h2, he, he']
def clkW (c : List Tk) : Val := if c.length = 0 then noV else .mk 0 0 [] [c] []
theorem clkW_nil : clkW [] = noV := rfl
theorem clkW_cons {c : List Tk} (h : c ≠ []) : clkW c = .mk 0 0 [] [c] [] := by
  cases c with
  | nil => exact absurd rfl h
  | cons x c => rfl
theorem joinF_ne {a b : List Tk} (h : a ≠ []) : joinF a b ≠ [] := by
  cases a with
  | nil => exact absurd rfl h
  | cons x a =>
    cases b with
    | nil => rw [join_nil]; simp
    | cons y b =>
      rw [join_cons]
      split
      · simp
      · split <;> simp
theorem clocksF_clk (a b : List Tk) : clocksF (clkW a) (clkW b) = clkW (joinF a b) := by
  cases a with
  | nil => rw [nil_join]; rfl
  | cons x a =>
    cases b with
    | nil => rw [join_nil]; rfl
    | cons y b => rw [clkW_cons (joinF_ne (by simp))]; rfl
structure SemiB (P : Val → Prop) (f : Val → Val → Val) (b : Val) : Prop extends SemiL P f where
  bot : P b
  neut : ∀ x, P x → f x b = x
def U64 (n : Int) : Prop := 0 ≤ n ∧ n < 18446744073709551616
def N1 (v : Val) : Prop := ∃ n, v = .mk n 0 [] [] [] ∧ U64 n
def N2 (v : Val) : Prop := ∃ n, v = .mk n 0 [] [] [] ∧ 0 ≤ n ∧ n ≤ 1
def N6 (v : Val) : Prop := isLV v = true ∧ okV v
def N3 (v : Val) : Prop := ∃ s, v = .mk 0 0 s [] [] ∧ Up s ∧ ∀ x ∈ s, x.length ≤ 16
structure R4 (p : Val → Prop) (b : Val) (l : List (Bs × Val)) : Prop where
  srt : SrtK cmpX l
  sh : ∀ e ∈ l, e.1.length ≤ 16
  all : AllV p l
  non : ∀ e ∈ l, e.2 ≠ b
def N4 (p : Val → Prop) (b : Val) (v : Val) : Prop := ∃ l, v = mapL l ∧ R4 p b l
def N5 (p q : Val → Prop) (v : Val) : Prop := ∃ x y, v = .mk 0 0 [] [] [x, y] ∧ p x ∧ q y
def N7 (v : Val) : Prop := ∃ c, v = clkW c ∧ ClkOk c
structure R8 (p : Val → Prop) (l : List (List Tk × Val)) : Prop where
  srt : SrtK byTicksF l
  key : AllK ClkOk l
  len : ∀ e ∈ l, e.1.length ≤ 40
  all : AllV p l
  anti : AntiK blwC l
def N8 (p : Val → Prop) (v : Val) : Prop := ∃ l, v = cauL l ∧ R8 p l
def LVB (k : Int) (bs : List Val) (ps : List (Val → Prop)) (v : Val) : Prop :=
  if k = 1 then N1 v else if k = 2 then N2 v else if k = 3 then N3 v
  else if k = 4 then N4 (ps.headD fun _ => False) (bs.headD noV) v
  else if k = 5 then N5 (ps.headD fun _ => False) (ps.tail.headD fun _ => False) v
  else if k = 6 then N6 v else if k = 7 then N7 v else N8 (ps.headD fun _ => False) v
mutual
def LV : Sch → Val → Prop
  | .mk k ins, v => LVB k (bottomL ins) (LVL ins) v
def LVL : List Sch → List (Val → Prop)
  | [] => []
  | s :: l => LV s :: LVL l
end
noncomputable def jnB (k : Int) (fs : List (Val → Val → Val)) (a b : Val) : Val :=
  if k = 1 ∨ k = 2 then .mk (max a.nv b.nv) 0 [] [] []
  else if k = 3 then .mk 0 0 (bothX a.sv b.sv) [] []
  else if k = 4 then mapL (mergeG cmpX (fs.headD fun x _ => x) (entX a) (entX b))
  else if k = 5 then (match a.vv, b.vv with | [x, y], [x2, y2] => .mk 0 0 [] [] [fs.headD (fun x _ => x) x x2, fs.tail.headD (fun x _ => x) y y2] | _, _ => noV)
  else if k = 6 then laterF a b
  else if k = 7 then clocksF a b
  else cauL (topG byTicksF blwC (fs.headD fun x _ => x) (entC a) (entC b))
mutual
noncomputable def jn : Sch → Val → Val → Val
  | .mk k ins, a, b => jnB k (jnL ins) a b
noncomputable def jnL : List Sch → List (Val → Val → Val)
  | [] => []
  | s :: l => jn s :: jnL l
end
theorem jn_mk (k : Int) (ins : List Sch) (a b : Val) : jn (.mk k ins) a b = jnB k (jnL ins) a b := by rw [jn]
theorem LV_mk (k : Int) (ins : List Sch) (v : Val) : LV (.mk k ins) v = LVB k (bottomL ins) (LVL ins) v := by rw [LV]
theorem bot_mk (k : Int) (ins : List Sch) : bottomF (.mk k ins) = if k = 5 then .mk 0 0 [] [] (bottomL ins) else noV := by rw [bottomF]
theorem sem1 (fs : List (Val → Val → Val)) : SemiB N1 (jnB 1 fs) noV where
  cl := by rintro _ _ ⟨n, rfl, hn⟩ ⟨m, rfl, hm⟩; exact ⟨max n m, rfl, by unfold U64 at *; omega⟩
  comm := by
    rintro _ _ ⟨n, rfl, hn⟩ ⟨m, rfl, hm⟩
    show Val.mk (max n m) 0 [] [] [] = .mk (max m n) 0 [] [] []
    rw [show max n m = max m n by omega]
  assoc := by
    rintro _ _ _ ⟨n, rfl, hn⟩ ⟨m, rfl, hm⟩ ⟨r, rfl, hr⟩
    show Val.mk (max (max n m) r) 0 [] [] [] = .mk (max n (max m r)) 0 [] [] []
    rw [show max (max n m) r = max n (max m r) by omega]
  idem := by
    rintro _ ⟨n, rfl, hn⟩
    show Val.mk (max n n) 0 [] [] [] = _
    rw [show max n n = n by omega]
  bot := ⟨0, rfl, by unfold U64; omega⟩
  neut := by
    rintro _ ⟨n, rfl, hn⟩
    show Val.mk (max n 0) 0 [] [] [] = _
    rw [show max n 0 = n by unfold U64 at hn; omega]
theorem sem2 (fs : List (Val → Val → Val)) : SemiB N2 (jnB 2 fs) noV where
  cl := by rintro _ _ ⟨n, rfl, hn⟩ ⟨m, rfl, hm⟩; exact ⟨max n m, rfl, by omega, by omega⟩
  comm := by
    rintro _ _ ⟨n, rfl, hn⟩ ⟨m, rfl, hm⟩
    show Val.mk (max n m) 0 [] [] [] = .mk (max m n) 0 [] [] []
    rw [show max n m = max m n by omega]
  assoc := by
    rintro _ _ _ ⟨n, rfl, hn⟩ ⟨m, rfl, hm⟩ ⟨r, rfl, hr⟩
    show Val.mk (max (max n m) r) 0 [] [] [] = .mk (max n (max m r)) 0 [] [] []
    rw [show max (max n m) r = max n (max m r) by omega]
  idem := by
    rintro _ ⟨n, rfl, hn⟩
    show Val.mk (max n n) 0 [] [] [] = _
    rw [show max n n = n by omega]
  bot := ⟨0, rfl, by omega, by omega⟩
  neut := by
    rintro _ ⟨n, rfl, hn⟩
    show Val.mk (max n 0) 0 [] [] [] = _
    rw [show max n 0 = n by omega]
theorem bothX_nil : ∀ a : List Bs, bothX a [] = a
  | [] => by rw [bothX]
  | x :: a => by rw [bothX, bothX_nil a]
theorem sem3 (fs : List (Val → Val → Val)) : SemiB N3 (jnB 3 fs) noV where
  cl := by
    rintro _ _ ⟨s, rfl, hs, ls⟩ ⟨u, rfl, hu, lu⟩
    refine ⟨bothX s u, rfl, up_both s u hs hu, fun x hx => ?_⟩
    rcases (mem_both s u x).1 hx with h | h
    · exact ls x h
    · exact lu x h
  comm := by
    rintro _ _ ⟨s, rfl, hs, ls⟩ ⟨u, rfl, hu, lu⟩
    show Val.mk 0 0 (bothX s u) [] [] = .mk 0 0 (bothX u s) [] []
    rw [up_ext (up_both s u hs hu) (up_both u s hu hs) fun x => by rw [mem_both, mem_both, or_comm]]
  assoc := by
    rintro _ _ _ ⟨s, rfl, hs, ls⟩ ⟨u, rfl, hu, lu⟩ ⟨w, rfl, hw, lw⟩
    show Val.mk 0 0 (bothX (bothX s u) w) [] [] = .mk 0 0 (bothX s (bothX u w)) [] []
    rw [up_ext (up_both _ _ (up_both s u hs hu) hw) (up_both _ _ hs (up_both u w hu hw)) fun x => by rw [mem_both, mem_both, mem_both, mem_both, or_assoc]]
  idem := by
    rintro _ ⟨s, rfl, hs, ls⟩
    show Val.mk 0 0 (bothX s s) [] [] = _
    rw [up_ext (up_both s s hs hs) hs fun x => by rw [mem_both, or_self]]
  bot := ⟨[], rfl, .nil, by simp⟩
  neut := by
    rintro _ ⟨s, rfl, hs, ls⟩
    show Val.mk 0 0 (bothX s []) [] [] = _
    rw [bothX_nil]
section
variable {p : Val → Prop} {f : Val → Val → Val} {b : Val} (h : SemiB p f b)
include h
theorem ne_bot {x y : Val} (hx : p x) (hy : p y) (hn : x ≠ b) : f x y ≠ b := by
  intro e
  apply hn
  have h1 := h.neut x hx
  rw [← e, ← h.assoc x x y hx hx hy, h.idem x hx, e] at h1
  exact h1.symm
theorem r4_merge {l m : List (Bs × Val)} (hl : R4 p b l) (hm : R4 p b m) : R4 p b (mergeG cmpX f l m) where
  srt := merge_srt ordX f l m hl.srt hm.srt
  sh e he := by
    rcases (merge_has (f := f) ordX l m e.1).1 ⟨e, he, rfl⟩ with ⟨x, hx, e2⟩ | ⟨x, hx, e2⟩
    · rw [← e2]; exact hl.sh x hx
    · rw [← e2]; exact hm.sh x hx
  all := merge_allV h.toSemiL ordX hl.srt hm.srt hl.all hm.all
  non e he := by
    have hk := mem_look ordX (merge_srt ordX f l m hl.srt hm.srt) he
    rw [look_merge ordX f l m hl.srt hm.srt] at hk
    cases h1 : look l e.1 with
    | none =>
      rw [h1] at hk
      exact hm.non _ (look_mem hk)
    | some x =>
      cases h2 : look m e.1 with
      | none =>
        rw [h1, h2] at hk
        injection hk with hk
        rw [← hk]
        exact hl.non _ (look_mem h1)
      | some y =>
        rw [h1, h2] at hk
        injection hk with hk
        rw [← hk]
        exact ne_bot h (look_allV hl.all h1) (look_allV hm.all h2) (hl.non _ (look_mem h1))
theorem sem4 : SemiB (N4 p b) (jnB 4 [f]) noV where
  cl := by
    rintro _ _ ⟨l, rfl, hl⟩ ⟨m, rfl, hm⟩
    show N4 p b (mapL (mergeG cmpX f (entX (mapL l)) (entX (mapL m))))
    rw [entX_map_, entX_map_]
    exact ⟨_, rfl, r4_merge h hl hm⟩
  comm := by
    rintro _ _ ⟨l, rfl, hl⟩ ⟨m, rfl, hm⟩
    show mapL (mergeG cmpX f (entX (mapL l)) (entX (mapL m))) = mapL (mergeG cmpX f (entX (mapL m)) (entX (mapL l)))
    rw [entX_map_, entX_map_, mergeG_comm h.toSemiL ordX hl.srt hm.srt hl.all hm.all]
  assoc := by
    rintro _ _ _ ⟨l, rfl, hl⟩ ⟨m, rfl, hm⟩ ⟨r, rfl, hr⟩
    show mapL (mergeG cmpX f (entX (mapL (mergeG cmpX f (entX (mapL l)) (entX (mapL m))))) (entX (mapL r))) = mapL (mergeG cmpX f (entX (mapL l)) (entX (mapL (mergeG cmpX f (entX (mapL m)) (entX (mapL r))))))
    simp only [entX_map_]
    rw [mergeG_assoc h.toSemiL ordX hl.srt hm.srt hr.srt hl.all hm.all hr.all]
  idem := by
    rintro _ ⟨l, rfl, hl⟩
    show mapL (mergeG cmpX f (entX (mapL l)) (entX (mapL l))) = _
    rw [entX_map_, mergeG_idem h.toSemiL ordX hl.srt hl.all]
  bot := ⟨[], rfl, .nil, by simp, by simp [AllV], by simp⟩
  neut := by
    rintro _ ⟨l, rfl, hl⟩
    show mapL (mergeG cmpX f (entX (mapL l)) []) = _
    rw [entX_map_, mergeG_nil]
theorem r8_top {l m : List (List Tk × Val)} (hl : R8 p l) (hm : R8 p m) : R8 p (topG byTicksF blwC f l m) where
  srt := top_srt ordT hl.srt hm.srt
  key := top_allK ordT hl.key hm.key
  len := top_allK (Q := fun c : List Tk => c.length ≤ 40) ordT hl.len hm.len
  all := top_allV h.toSemiL ordT hl.srt hm.srt hl.all hm.all
  anti := top_anti ordT l m
theorem sem8 : SemiB (N8 p) (jnB 8 [f]) noV where
  cl := by
    rintro _ _ ⟨l, rfl, hl⟩ ⟨m, rfl, hm⟩
    show N8 p (cauL (topG byTicksF blwC f (entC (cauL l)) (entC (cauL m))))
    rw [entC_cau, entC_cau]
    exact ⟨_, rfl, r8_top h hl hm⟩
  comm := by
    rintro _ _ ⟨l, rfl, hl⟩ ⟨m, rfl, hm⟩
    show cauL (topG byTicksF blwC f (entC (cauL l)) (entC (cauL m))) = cauL (topG byTicksF blwC f (entC (cauL m)) (entC (cauL l)))
    rw [entC_cau, entC_cau, topG_comm h.toSemiL ordT hl.srt hm.srt hl.all hm.all]
  assoc := by
    rintro _ _ _ ⟨l, rfl, hl⟩ ⟨m, rfl, hm⟩ ⟨r, rfl, hr⟩
    show cauL (topG byTicksF blwC f (entC (cauL (topG byTicksF blwC f (entC (cauL l)) (entC (cauL m))))) (entC (cauL r))) = cauL (topG byTicksF blwC f (entC (cauL l)) (entC (cauL (topG byTicksF blwC f (entC (cauL m)) (entC (cauL r))))))
    simp only [entC_cau]
    rw [topG_assoc h.toSemiL poC ordT hl.srt hm.srt hr.srt hl.all hm.all hr.all hl.key hm.key hr.key]
  idem := by
    rintro _ ⟨l, rfl, hl⟩
    show cauL (topG byTicksF blwC f (entC (cauL l)) (entC (cauL l))) = _
    rw [entC_cau, topG_idem h.toSemiL ordT hl.srt hl.all hl.anti]
  bot := ⟨[], rfl, .nil, by simp [AllK], by simp, by simp [AllV], by simp [AntiK]⟩
  neut := by
    rintro _ ⟨l, rfl, hl⟩
    show cauL (topG byTicksF blwC f (entC (cauL l)) []) = _
    rw [entC_cau, topG_nil hl.anti]
end
theorem sem5 {p q : Val → Prop} {f g : Val → Val → Val} {b c : Val} (h : SemiB p f b) (k : SemiB q g c) : SemiB (N5 p q) (jnB 5 [f, g]) (.mk 0 0 [] [] [b, c]) where
  cl := by
    rintro _ _ ⟨x, y, rfl, hx, hy⟩ ⟨x2, y2, rfl, hx2, hy2⟩
    exact ⟨f x x2, g y y2, rfl, h.cl _ _ hx hx2, k.cl _ _ hy hy2⟩
  comm := by
    rintro _ _ ⟨x, y, rfl, hx, hy⟩ ⟨x2, y2, rfl, hx2, hy2⟩
    show Val.mk 0 0 [] [] [f x x2, g y y2] = .mk 0 0 [] [] [f x2 x, g y2 y]
    rw [h.comm _ _ hx hx2, k.comm _ _ hy hy2]
  assoc := by
    rintro _ _ _ ⟨x, y, rfl, hx, hy⟩ ⟨x2, y2, rfl, hx2, hy2⟩ ⟨x3, y3, rfl, hx3, hy3⟩
    show Val.mk 0 0 [] [] [f (f x x2) x3, g (g y y2) y3] = .mk 0 0 [] [] [f x (f x2 x3), g y (g y2 y3)]
    rw [h.assoc _ _ _ hx hx2 hx3, k.assoc _ _ _ hy hy2 hy3]
  idem := by
    rintro _ ⟨x, y, rfl, hx, hy⟩
    show Val.mk 0 0 [] [] [f x x, g y y] = _
    rw [h.idem _ hx, k.idem _ hy]
  bot := ⟨b, c, rfl, h.bot, k.bot⟩
  neut := by
    rintro _ ⟨x, y, rfl, hx, hy⟩
    show Val.mk 0 0 [] [] [f x b, g y c] = _
    rw [h.neut _ hx, k.neut _ hy]
theorem isLV_no : isLV noV = true := by unfold isLV noV; rw [isVF_mk 6]; rfl
theorem sem6 (fs : List (Val → Val → Val)) : SemiB N6 (jnB 6 fs) noV where
  cl := by
    rintro a b ⟨ha, oa⟩ ⟨hb, ob⟩
    show N6 (laterF a b)
    rcases laterF_or a b with e | e <;> rw [e]
    · exact ⟨ha, oa⟩
    · exact ⟨hb, ob⟩
  comm := by rintro a b ⟨ha, oa⟩ ⟨hb, ob⟩; exact laterF_comm ha hb
  assoc := by rintro a b c ⟨ha, oa⟩ ⟨hb, ob⟩ ⟨hc, oc⟩; exact laterF_assoc ha hb hc
  idem := by
    rintro a ⟨ha, oa⟩
    show laterF a a = a
    rcases laterF_or a a with e | e <;> exact e
  bot := ⟨isLV_no, okV_no⟩
  neut := by rintro a ⟨ha, oa⟩; exact later_no_r ha
theorem sem7 (fs : List (Val → Val → Val)) : SemiB N7 (jnB 7 fs) noV where
  cl := by
    rintro _ _ ⟨a, rfl, ha⟩ ⟨b, rfl, hb⟩
    show N7 (clocksF (clkW a) (clkW b))
    rw [clocksF_clk]
    exact ⟨_, rfl, clkOk_join ha hb⟩
  comm := by
    rintro _ _ ⟨a, rfl, ha⟩ ⟨b, rfl, hb⟩
    show clocksF (clkW a) (clkW b) = clocksF (clkW b) (clkW a)
    rw [clocksF_clk, clocksF_clk, clk_comm ha hb]
  assoc := by
    rintro _ _ _ ⟨a, rfl, ha⟩ ⟨b, rfl, hb⟩ ⟨c, rfl, hc⟩
    show clocksF (clocksF (clkW a) (clkW b)) (clkW c) = clocksF (clkW a) (clocksF (clkW b) (clkW c))
    rw [clocksF_clk, clocksF_clk, clocksF_clk, clocksF_clk, clk_assoc ha hb hc]
  idem := by
    rintro _ ⟨a, rfl, ha⟩
    show clocksF (clkW a) (clkW a) = _
    rw [clocksF_clk, clk_idem ha]
  bot := ⟨[], rfl, .nil, by simp [Go.MV.Pos], by simp⟩
  neut := by
    rintro _ ⟨a, rfl, ha⟩
    show clocksF (clkW a) (clkW []) = _
    rw [clocksF_clk, join_nil]
theorem LVL_one (t : Sch) : LVL [t] = [LV t] := by simp [LVL]
theorem jnL_one (t : Sch) : jnL [t] = [jn t] := by simp [jnL]
theorem sem : ∀ (d : Nat) (s : Sch), isF d s = true → SemiB (LV s) (jn s) (bottomF s)
  | 0, s, h => by simp [isF] at h
  | d + 1, .mk k ins, h => by
    rw [isF] at h
    simp only [Bool.and_eq_true, List.all_eq_true, beq_iff_eq] at h
    have e1 : LV (.mk k ins) = LVB k (bottomL ins) (LVL ins) := funext fun v => LV_mk k ins v
    have e2 : jn (.mk k ins) = jnB k (jnL ins) := funext fun a => funext fun b => jn_mk k ins a b
    rw [e1, e2, bot_mk]
    rcases k8_of h.1 with rfl | rfl | rfl | rfl | rfl | rfl | rfl | rfl
    · exact sem1 _
    · exact sem2 _
    · exact sem3 _
    · obtain ⟨t1, rfl⟩ := one_ins h.1 (by decide)
      have ih := sem d t1 (h.2 _ (by simp))
      rw [LVL_one, jnL_one, bottomL_eq]
      exact sem4 ih
    · obtain ⟨t1, t2, rfl⟩ := two_of h.1
      have ih1 := sem d t1 (h.2 _ (by simp))
      have ih2 := sem d t2 (h.2 _ (by simp))
      rw [bottomL_eq, show LVL [t1, t2] = [LV t1, LV t2] by simp [LVL], show jnL [t1, t2] = [jn t1, jn t2] by simp [jnL]]
      exact sem5 ih1 ih2
    · exact sem6 _
    · exact sem7 _
    · obtain ⟨t1, rfl⟩ := one_ins h.1 (by decide)
      have ih := sem d t1 (h.2 _ (by simp))
      rw [LVL_one, jnL_one, bottomL_eq]
      exact sem8 ih
theorem map_filter_ {κ : Type} (g : Ent κ → κ × Val) (p : κ → Bool) (hg : ∀ e, (g e).1 = e.1) : ∀ l : List (Ent κ), (l.filter fun e => p e.1).map g = (l.map g).filter fun e => p e.1
  | [] => rfl
  | e :: l => by
    rw [List.map_cons]
    by_cases h : p e.1 = true
    · rw [List.filter_cons_of_pos (p := fun e : Ent κ => p e.1) h, List.filter_cons_of_pos (p := fun e : κ × Val => p e.1) (by rw [hg]; exact h), List.map_cons, map_filter_ g p hg l]
    · rw [List.filter_cons_of_neg (p := fun e : Ent κ => p e.1) h, List.filter_cons_of_neg (p := fun e : κ × Val => p e.1) (by rw [hg]; exact h), map_filter_ g p hg l]
theorem top_eq (g : Val → Val → Val) (a b : List (List Tk × Val)) : ((mergeE byTicksF a b).filter fun e => !seenE (mergeE byTicksF a b) e).map (fun e => (e.1, fillE g e)) = topG byTicksF blwC g a b := by
  classical
  unfold topG
  have h : ∀ k, (!(mergeE byTicksF a b).any fun o => decide (cmpF k o.1 = -1)) = decide (¬ Dead blwC (HasK (mergeG byTicksF g a b)) k) := by
    intro k
    have : (mergeE byTicksF a b).any (fun o => decide (cmpF k o.1 = -1)) = true ↔ Dead blwC (HasK (mergeG byTicksF g a b)) k := by
      rw [List.any_eq_true]
      unfold Dead HasK mergeG blwC
      constructor
      · rintro ⟨o, ho, hc⟩
        exact ⟨o.1, ⟨_, List.mem_map.2 ⟨o, ho, rfl⟩, rfl⟩, by simpa using hc⟩
      · rintro ⟨_, ⟨e, he, rfl⟩, hc⟩
        obtain ⟨o, ho, rfl⟩ := List.mem_map.1 he
        exact ⟨o, ho, by simpa using hc⟩
    cases hb : (mergeE byTicksF a b).any (fun o => decide (cmpF k o.1 = -1)) with
    | true =>
      have hd := this.1 hb
      simp [hd]
    | false =>
      have hd : ¬ Dead blwC (HasK (mergeG byTicksF g a b)) k := fun hd => by rw [this.2 hd] at hb; cases hb
      simp [hd]
  have h2 := map_filter_ (fun e : Ent (List Tk) => (e.1, fillE g e)) (fun k => !(mergeE byTicksF a b).any fun o => decide (cmpF k o.1 = -1)) (fun _ => rfl) (mergeE byTicksF a b)
  refine Eq.trans h2 ?_
  unfold mergeG at h ⊢
  exact List.filter_congr fun e _ => h e.1
theorem goE_fill {κ : Type} {f : Val → Val → Option Val} {g : Val → Val → Val} : ∀ {l : List (Ent κ)} {x : List (κ × Val)}, (∀ e ∈ l, ∀ y, e.2.2 = some y → ∀ v, f e.2.1 y = some v → v = g e.2.1 y) → goE f l = some x → x = l.map fun e => (e.1, fillE g e)
  | [], x, _, h => by simp [goE] at h; simp [h]
  | e :: l, x, hl, h => by
    rw [goE] at h
    cases ho : ofE f e with
    | none => rw [ho] at h; cases h
    | some v =>
      rw [ho] at h
      cases hg : goE f l with
      | none => rw [hg] at h; cases h
      | some y =>
        rw [hg] at h
        injection h with h
        rw [← h, List.map_cons, ← goE_fill (fun e he => hl e (.tail _ he)) hg]
        show (e.1, v) :: y = (e.1, fillE g e) :: y
        congr 2
        unfold ofE at ho
        unfold fillE
        cases he : e.2.2 with
        | none => rw [he] at ho; injection ho with ho; exact ho.symm
        | some w => rw [he] at ho; exact hl e (.head _) w he v ho
theorem both_jn : ∀ (d : Nat) (s : Sch), isF d s = true → ∀ a b v : Val, LV s a → LV s b → bothF s a b = some v → v = jn s a b
  | 0, s, h => by simp [isF] at h
  | d + 1, .mk k ins, h => by
    rw [isF] at h
    simp only [Bool.and_eq_true, List.all_eq_true, beq_iff_eq] at h
    intro a b v ha hb hv
    rw [bothF_mk] at hv
    replace hv := cap_some hv
    rw [LV_mk] at ha hb
    rw [jn_mk]
    rcases k8_of h.1 with rfl | rfl | rfl | rfl | rfl | rfl | rfl | rfl
    · injection hv with hv; exact hv.symm
    · injection hv with hv; exact hv.symm
    · injection hv with hv; exact hv.symm
    · obtain ⟨t1, rfl⟩ := one_ins h.1 (by decide)
      have ih := both_jn d t1 (h.2 _ (by simp))
      replace hv : mapsF (bothF t1) a b = some v := by rw [← hv]; simp [bothB, bothL]
      rw [LVL_one, bottomL_eq] at ha hb
      obtain ⟨l, rfl, hl⟩ : N4 (LV t1) (bottomF t1) a := ha
      obtain ⟨m, rfl, hm⟩ : N4 (LV t1) (bottomF t1) b := hb
      unfold mapsF mergedX at hv
      obtain ⟨x, hx, rfl⟩ := Option.map_eq_some_iff.1 hv
      rw [jnL_one]
      show mapL x = mapL (mergeG cmpX (jn t1) (entX (mapL l)) (entX (mapL m)))
      rw [entX_map_, entX_map_] at hx ⊢
      congr 1
      refine goE_fill (fun e he y hy v hv => ?_) hx
      obtain ⟨p, q⟩ := mergeE_mem _ _ _ e he
      obtain ⟨q1, k, q2⟩ := q y hy
      exact ih _ _ _ (hl.all _ q1) (hm.all _ q2) hv
    · obtain ⟨t1, t2, rfl⟩ := two_of h.1
      have ih1 := both_jn d t1 (h.2 _ (by simp))
      have ih2 := both_jn d t2 (h.2 _ (by simp))
      replace hv : pairF2 [bothF t1, bothF t2] a b = some v := by rw [← hv]; simp [bothB, bothL]
      rw [show LVL [t1, t2] = [LV t1, LV t2] by simp [LVL]] at ha hb
      obtain ⟨x, y, rfl, hx, hy⟩ : N5 (LV t1) (LV t2) a := ha
      obtain ⟨x2, y2, rfl, hx2, hy2⟩ : N5 (LV t1) (LV t2) b := hb
      rw [show jnL [t1, t2] = [jn t1, jn t2] by simp [jnL]]
      show v = .mk 0 0 [] [] [jn t1 x x2, jn t2 y y2]
      unfold pairF2 at hv
      obtain ⟨z, hz, rfl⟩ := Option.map_eq_some_iff.1 hv
      simp only [Val.vv, goP] at hz
      cases h1 : bothF t1 x x2 with
      | none => rw [h1] at hz; cases hz
      | some u =>
        rw [h1] at hz
        cases h2 : bothF t2 y y2 with
        | none => rw [h2] at hz; cases hz
        | some u2 =>
          rw [h2] at hz
          simp at hz
          rw [← hz, ih1 _ _ _ hx hx2 h1, ih2 _ _ _ hy hy2 h2]
    · injection hv with hv; exact hv.symm
    · injection hv with hv; exact hv.symm
    · obtain ⟨t1, rfl⟩ := one_ins h.1 (by decide)
      have ih := both_jn d t1 (h.2 _ (by simp))
      replace hv : causesF (bothF t1) a b = some v := by rw [← hv]; simp [bothB, bothL]
      rw [LVL_one, bottomL_eq] at ha hb
      obtain ⟨l, rfl, hl⟩ : N8 (LV t1) a := ha
      obtain ⟨m, rfl, hm⟩ : N8 (LV t1) b := hb
      unfold causesF mergedC at hv
      obtain ⟨x, hx, rfl⟩ := Option.map_eq_some_iff.1 hv
      rw [jnL_one]
      show cauL x = cauL (topG byTicksF blwC (jn t1) (entC (cauL l)) (entC (cauL m)))
      rw [entC_cau, entC_cau] at hx ⊢
      rw [← top_eq]
      congr 1
      refine goE_fill (fun e he y hy v hv => ?_) hx
      obtain ⟨p, q⟩ := mergeE_mem _ _ _ e (List.mem_filter.1 he).1
      obtain ⟨q1, k, q2⟩ := q y hy
      exact ih _ _ _ (hl.all _ q1) (hm.all _ q2) hv
end Go.Proofs.YtlooahbfpmigfaaGreat
end
section
set_option linter.unusedVariables false
set_option linter.unusedSimpArgs false
set_option maxRecDepth 20000
namespace Go.Proofs.YtlooahbfpmigfaaGreat
open Go Go.MV
theorem cap_not {o : Option Val} {v : Val} (h : capF o = some v) : largeF v = false := by
  cases o with
  | none => cases h
  | some u =>
    unfold capF at h
    simp only [Option.bind_some] at h
    split at h
    · cases h
    · rename_i hl; injection h with h; subst h; simpa using hl
theorem row_iff {s : List Bs} : isRowF s = true ↔ s.length ≤ 40 ∧ Up s ∧ ∀ x ∈ s, x.length ≤ 16 := by
  unfold isRowF shortF
  rw [Bool.and_eq_true, Bool.and_eq_true, decide_eq_true_eq, rises_up, List.all_eq_true]
  simp only [decide_eq_true_eq, and_assoc]
theorem srt_zip {s : List Bs} {w : List Val} (hl : s.length = w.length) (h : Up s) : SrtK cmpX (s.zip w) := by
  unfold SrtK
  have : Up ((s.zip w).map (·.1)) := by rw [(map_zip hl).1]; exact h
  unfold Up at this
  rw [List.pairwise_map] at this
  exact this.imp fun h => cmpX_lt.2 h
theorem srt_up {l : List (Bs × Val)} (h : SrtK cmpX l) : Up (l.map (·.1)) := by
  unfold Up
  rw [List.pairwise_map]
  exact List.Pairwise.imp (fun h => cmpX_lt.1 h) h
theorem isCause_iff {c : List (List Tk)} {w : List Val} (hl : c.length = w.length) (hu : ∀ x ∈ c, ∀ t ∈ x, okTk t) : isCauseF c = true ↔ SrtK byTicksF (c.zip w) ∧ AllK ClkOk (c.zip w) ∧ (∀ e ∈ c.zip w, e.1.length ≤ 40) ∧ AntiK blwC (c.zip w) := by
  have hm := (map_zip hl).1
  have hmem : ∀ x, x ∈ c ↔ ∃ e ∈ c.zip w, e.1 = x := fun x => by
    conv => lhs; rw [← hm]
    simp only [List.mem_map]
  unfold isCauseF
  rw [Bool.and_eq_true, List.all_eq_true, pairsF_iff]
  have hp : ∀ R : List Tk → List Tk → Prop, c.Pairwise R ↔ (c.zip w).Pairwise fun x y => R x.1 y.1 := fun R => by
    conv => lhs; rw [← hm]
    rw [List.pairwise_map]
  constructor
  · rintro ⟨h1, h2⟩
    have hk : ∀ e ∈ c.zip w, ClkOk e.1 ∧ e.1.length ≤ 40 := fun e he => by
      have hc := (hmem e.1).2 ⟨e, he, rfl⟩
      exact (isClock_iff (hu _ hc)).1 (h1 _ hc)
    have hpw := (hp _).1 h2
    have hS : SrtK byTicksF (c.zip w) := hpw.imp fun h => h.1
    refine ⟨hS, fun e he => (hk e he).1, fun e he => (hk e he).2, fun x hx y hy hb => ?_⟩
    obtain ⟨i, hi, rfl⟩ := List.mem_iff_getElem.1 hx
    obtain ⟨j, hj, rfl⟩ := List.mem_iff_getElem.1 hy
    have kx := (hk _ hx).1
    have ky := (hk _ hy).1
    rcases Nat.lt_trichotomy i j with h | h | h
    · have := (List.pairwise_iff_getElem.1 hpw i j hi hj h).2
      exact ((cmp_two kx ky).1 this).2.1 hb
    · subst h
      exact poC.irr _ kx hb
    · have := (List.pairwise_iff_getElem.1 hpw j i hj hi h).2
      exact ((cmp_two ky kx).1 this).2.2 hb
  · rintro ⟨hS, hK, hL, hA⟩
    refine ⟨fun x hx => ?_, (hp _).2 ?_⟩
    · obtain ⟨e, he, rfl⟩ := (hmem x).1 hx
      exact (isClock_iff (hu _ hx)).2 ⟨hK e he, hL e he⟩
    · refine List.Pairwise.imp_of_mem (fun {a b} ha hb h => ?_) hS
      refine ⟨h, (cmp_two (hK a ha) (hK b hb)).2 ⟨fun e => ?_, hA a ha b hb, hA b hb a ha⟩⟩
      rw [e] at h
      exact ordT.irr _ h
theorem bot_eq {d : Nat} {t : Sch} (h : isF d t = true) (hd : d ≤ 16) : BottomF t = bottomF t := by
  unfold BottomF
  rw [if_pos (isF_le hd h)]
theorem lv_of : ∀ (d : Nat) (s : Sch), isF d s = true → d ≤ 16 → ∀ v : Val, okV v → isVF s v = true → LV s v
  | 0, s, h => by simp [isF] at h
  | d + 1, .mk k ins, h => by
    have h0 := h
    rw [isF] at h
    simp only [Bool.and_eq_true, List.all_eq_true, beq_iff_eq] at h
    rintro hd ⟨n, m, s, c, w⟩ ho hv
    have o := okV_mk.1 ho
    rw [LV_mk]
    rcases k8_of h.1 with rfl | rfl | rfl | rfl | rfl | rfl | rfl | rfl
    · rw [isVF_mk 1] at hv
      simp [bareF, numsK, textsK, clocksK, valuesK, Val.nv, Val.mv, Val.sv, Val.cv, Val.vv] at hv
      obtain ⟨⟨⟨⟨⟨h1, h2⟩, h3⟩, h4⟩, _⟩, _⟩ := hv
      subst h1 h2 h3 h4
      exact ⟨n, rfl, o.1⟩
    · rw [isVF_mk 2] at hv
      simp [bareF, numsK, textsK, clocksK, valuesK, Val.nv, Val.mv, Val.sv, Val.cv, Val.vv] at hv
      obtain ⟨⟨⟨⟨⟨⟨h1, h2⟩, h3⟩, h4⟩, _⟩, _⟩, h5⟩ := hv
      subst h1 h2 h3 h4
      exact ⟨n, rfl, o.1.1, h5⟩
    · rw [isVF_mk 3] at hv
      simp [bareF, numsK, textsK, clocksK, valuesK, Val.nv, Val.mv, Val.sv, Val.cv, Val.vv] at hv
      obtain ⟨⟨⟨⟨⟨⟨h1, h2⟩, h3⟩, h4⟩, _⟩, _⟩, h5⟩ := hv
      subst h1 h2 h3 h4
      exact ⟨s, rfl, (row_iff.1 h5).2⟩
    · obtain ⟨t1, rfl⟩ := one_ins h.1 (by decide)
      have ih := lv_of d t1 (h.2 _ (by simp)) (by omega)
      rw [LVL_one, bottomL_eq]
      rw [isVF_mk 4] at hv
      simp [bareF, numsK, textsK, clocksK, valuesK, Val.nv, Val.mv, Val.sv, Val.cv, Val.vv, isVL] at hv
      obtain ⟨⟨⟨⟨⟨⟨h1, h2⟩, h3⟩, _⟩, _⟩, h4, h5⟩, h6⟩ := (show (((((n = 0 ∧ m = 0) ∧ c = []) ∧ w.length ≤ 40) ∧ c.length ≤ 40) ∧ (isRowF s = true ∧ s.length = w.length)) ∧ ∀ (x : Val), x ∈ w → isVF t1 x = true ∧ noneF t1 x = false from ⟨⟨hv.1, hv.2.1⟩, hv.2.2⟩)
      subst h1 h2 h3
      have hr := row_iff.1 h4
      refine ⟨s.zip w, (mapL_ent h5).symm, srt_zip h5 hr.2.1, fun e he => hr.2.2 _ (zip_m1 he), fun e he => ?_, fun e he => ?_⟩
      · exact ih _ (o.2.2.2 _ (zip_m2 he)) (h6 _ (zip_m2 he)).1
      · have := (h6 _ (zip_m2 he)).2
        unfold noneF at this
        rw [decide_eq_false_iff_not, bot_eq (h.2 _ (by simp)) (by omega)] at this
        exact fun e => this e.symm
    · obtain ⟨t1, t2, rfl⟩ := two_of h.1
      have ih1 := lv_of d t1 (h.2 _ (by simp)) (by omega)
      have ih2 := lv_of d t2 (h.2 _ (by simp)) (by omega)
      rw [isVF_mk 5] at hv
      simp [bareF, numsK, textsK, clocksK, valuesK, Val.nv, Val.mv, Val.sv, Val.cv, Val.vv, isVL] at hv
      obtain ⟨⟨⟨⟨⟨⟨h1, h2⟩, h3⟩, h4⟩, _⟩, _⟩, h5⟩ := hv
      subst h1 h2 h3 h4
      rw [show LVL [t1, t2] = [LV t1, LV t2] by simp [LVL]]
      match w, o, h5 with
      | [x, y], o, h5 =>
        simp at h5
        exact ⟨x, y, rfl, ih1 _ (o.2.2.2 _ (by simp)) h5.1, ih2 _ (o.2.2.2 _ (by simp)) h5.2⟩
      | [], _, h5 => simp at h5
      | [x], _, h5 => simp at h5
      | _ :: _ :: _ :: _, _, h5 => simp at h5
    · exact ⟨hv, ho⟩
    · rw [isVF_mk 7] at hv
      simp [bareF, numsK, textsK, clocksK, valuesK, Val.nv, Val.mv, Val.sv, Val.cv, Val.vv, isVL] at hv
      obtain ⟨⟨⟨⟨⟨⟨h1, h2⟩, h3⟩, h4⟩, _⟩, _⟩, h5⟩ := hv
      subst h1 h2 h3 h4
      match c, o, h5 with
      | [], _, _ => exact ⟨[], rfl, .nil, by simp [Go.MV.Pos], by simp⟩
      | [c], o, h5 =>
        simp at h5
        exact ⟨c, (clkW_cons (by intro e; subst e; simp at h5)).symm, ((isClock_iff (o.2.2.1 _ (by simp))).1 h5.2).1⟩
      | _ :: _ :: _, _, h5 => simp at h5
    · obtain ⟨t1, rfl⟩ := one_ins h.1 (by decide)
      have ih := lv_of d t1 (h.2 _ (by simp)) (by omega)
      rw [LVL_one, bottomL_eq]
      rw [isVF_mk 8] at hv
      simp [bareF, numsK, textsK, clocksK, valuesK, Val.nv, Val.mv, Val.sv, Val.cv, Val.vv, isVL] at hv
      obtain ⟨⟨⟨⟨⟨h1, h2⟩, h3⟩, _⟩, _⟩, ⟨h4, h5⟩, h6⟩ := hv
      subst h1 h2 h3
      obtain ⟨k1, k2, k3, k4⟩ := (isCause_iff h4 o.2.2.1).1 h5
      exact ⟨c.zip w, (cauL_ent h4).symm, k1, k2, k3, fun e he => ih _ (o.2.2.2 _ (zip_m2 he)) (h6 _ (zip_m2 he)), k4⟩
theorem is_both : ∀ (d : Nat) (s : Sch), isF d s = true → d ≤ 16 → ∀ a b v : Val, okV a → okV b → isVF s a = true → isVF s b = true → bothF s a b = some v → isVF s v = true
  | 0, s, h => by simp [isF] at h
  | d + 1, .mk k ins, h => by
    have h0 := h
    rw [isF] at h
    simp only [Bool.and_eq_true, List.all_eq_true, beq_iff_eq] at h
    intro hd a b v oa ob ha hb hv
    have la := lv_of _ _ h0 hd a oa ha
    have lb := lv_of _ _ h0 hd b ob hb
    have hj := both_jn _ _ h0 a b v la lb hv
    have lv : LV (.mk k ins) v := hj ▸ (sem _ _ h0).cl a b la lb
    have ov := okV_both _ _ h0 a b v oa ob hv
    rw [bothF_mk] at hv
    have hcap := cap_not hv
    replace hv := cap_some hv
    rw [LV_mk] at lv
    rcases k8_of h.1 with rfl | rfl | rfl | rfl | rfl | rfl | rfl | rfl
    · obtain ⟨n, rfl, hn⟩ : N1 v := lv
      exact isVF_mk 1
    · obtain ⟨n, rfl, hn⟩ : N2 v := lv
      rw [isVF_mk 2]
      simp [bareF, numsK, textsK, clocksK, valuesK, Val.nv, Val.mv, Val.sv, Val.cv, Val.vv, hn.2]
    · obtain ⟨s, rfl, hs⟩ : N3 v := lv
      rw [large_eq] at hcap
      simp at hcap
      rw [isVF_mk 3]
      simp [bareF, numsK, textsK, clocksK, valuesK, Val.nv, Val.mv, Val.sv, Val.cv, Val.vv, row_iff]
      exact ⟨by omega, hs⟩
    · obtain ⟨t1, rfl⟩ := one_ins h.1 (by decide)
      have ih := is_both d t1 (h.2 _ (by simp)) (by omega)
      rw [LVL_one, bottomL_eq] at lv
      obtain ⟨l, rfl, hl⟩ : N4 (LV t1) (bottomF t1) v := lv
      obtain ⟨n1, m1, s1, c1, w1⟩ := a
      obtain ⟨n2, m2, s2, c2, w2⟩ := b
      have a0 := okV_mk.1 oa
      have b0 := okV_mk.1 ob
      rw [isVF_mk 4] at ha hb
      simp [bareF, numsK, textsK, clocksK, valuesK, Val.nv, Val.mv, Val.sv, Val.cv, Val.vv, isVL] at ha hb
      replace hv : mapsF (bothF t1) (.mk n1 m1 s1 c1 w1) (.mk n2 m2 s2 c2 w2) = some (mapL l) := by rw [← hv]; simp [bothB, bothL]
      unfold mapsF at hv
      obtain ⟨x, hx, hxl⟩ := Option.map_eq_some_iff.1 hv
      have hx2 : x = l := by
        have := congrArg entX (show mapL x = mapL l from hxl)
        rwa [entX_map_, entX_map_] at this
      subst hx2
      have hval := goE_ok (P := fun _ => True) (Q := fun v => okV v ∧ isVF t1 v = true) (fun e he => by
        obtain ⟨p, q⟩ := mergeE_mem _ _ _ e he
        have h1 : okV e.2.1 ∧ isVF t1 e.2.1 = true := p.elim (fun h => ⟨a0.2.2.2 _ (zip_m2 h), (ha.2.2 _ (zip_m2 h)).1⟩) (fun h => ⟨b0.2.2.2 _ (zip_m2 h), (hb.2.2 _ (zip_m2 h)).1⟩)
        refine ⟨trivial, h1, fun y hy => ?_⟩
        obtain ⟨q1, k, q2⟩ := q y hy
        have h2 : okV y ∧ isVF t1 y = true := ⟨b0.2.2.2 _ (zip_m2 q2), (hb.2.2 _ (zip_m2 q2)).1⟩
        exact ⟨h2, fun v hv => ⟨okV_both d t1 (h.2 _ (by simp)) _ _ v h1.1 h2.1 hv, ih _ _ v h1.1 h2.1 h1.2 h2.2 hv⟩⟩) hx
      unfold mapL at hcap ⊢
      rw [large_eq] at hcap
      simp at hcap
      rw [isVF_mk 4]
      simp [bareF, numsK, textsK, clocksK, valuesK, Val.nv, Val.mv, Val.sv, Val.cv, Val.vv, isVL, row_iff]
      refine ⟨by omega, ⟨by omega, srt_up hl.srt, fun z y hz => hl.sh _ hz⟩, fun z y hz => ⟨(hval _ hz).2.2, ?_⟩⟩
      unfold noneF
      rw [decide_eq_false_iff_not, bot_eq (h.2 _ (by simp)) (by omega)]
      exact fun e => hl.non _ hz e.symm
    · obtain ⟨t1, t2, rfl⟩ := two_of h.1
      have ih1 := is_both d t1 (h.2 _ (by simp)) (by omega)
      have ih2 := is_both d t2 (h.2 _ (by simp)) (by omega)
      rw [LV_mk] at la lb
      rw [show LVL [t1, t2] = [LV t1, LV t2] by simp [LVL]] at lv la lb
      obtain ⟨x, y, rfl, hx, hy⟩ : N5 (LV t1) (LV t2) a := la
      obtain ⟨x2, y2, rfl, hx2, hy2⟩ : N5 (LV t1) (LV t2) b := lb
      rw [isVF_mk 5] at ha hb
      simp [bareF, numsK, textsK, clocksK, valuesK, Val.nv, Val.mv, Val.sv, Val.cv, Val.vv, isVL] at ha hb
      have a0 := okV_mk.1 oa
      have b0 := okV_mk.1 ob
      replace hv : pairF2 [bothF t1, bothF t2] (.mk 0 0 [] [] [x, y]) (.mk 0 0 [] [] [x2, y2]) = some v := by rw [← hv]; simp [bothB, bothL]
      unfold pairF2 at hv
      obtain ⟨z, hz, rfl⟩ := Option.map_eq_some_iff.1 hv
      simp only [Val.vv, goP] at hz
      cases h1 : bothF t1 x x2 with
      | none => rw [h1] at hz; cases hz
      | some u =>
        rw [h1] at hz
        cases h2 : bothF t2 y y2 with
        | none => rw [h2] at hz; cases hz
        | some u2 =>
          rw [h2] at hz
          simp at hz
          subst hz
          rw [isVF_mk 5]
          simp [bareF, numsK, textsK, clocksK, valuesK, Val.nv, Val.mv, Val.sv, Val.cv, Val.vv, isVL]
          exact ⟨ih1 _ _ _ (a0.2.2.2 _ (by simp)) (b0.2.2.2 _ (by simp)) ha.1 hb.1 h1, ih2 _ _ _ (a0.2.2.2 _ (by simp)) (b0.2.2.2 _ (by simp)) ha.2 hb.2 h2⟩
    · exact lv.1
    · obtain ⟨c, rfl, hc⟩ : N7 v := lv
      cases c with
      | nil => rw [clkW_nil]; unfold noV; rw [isVF_mk 7]; rfl
      | cons x c =>
        rw [clkW_cons (by simp)] at hcap ov ⊢
        rw [large_eq] at hcap
        simp at hcap
        rw [isVF_mk 7]
        simp [bareF, numsK, textsK, clocksK, valuesK, Val.nv, Val.mv, Val.sv, Val.cv, Val.vv]
        exact (isClock_iff ((okV_mk.1 ov).2.2.1 _ (by simp))).2 ⟨hc, by simp; omega⟩
    · obtain ⟨t1, rfl⟩ := one_ins h.1 (by decide)
      have ih := is_both d t1 (h.2 _ (by simp)) (by omega)
      rw [LVL_one] at lv
      obtain ⟨l, rfl, hl⟩ : N8 (LV t1) v := lv
      obtain ⟨n1, m1, s1, c1, w1⟩ := a
      obtain ⟨n2, m2, s2, c2, w2⟩ := b
      have a0 := okV_mk.1 oa
      have b0 := okV_mk.1 ob
      rw [isVF_mk 8] at ha hb
      simp [bareF, numsK, textsK, clocksK, valuesK, Val.nv, Val.mv, Val.sv, Val.cv, Val.vv, isVL] at ha hb
      replace hv : causesF (bothF t1) (.mk n1 m1 s1 c1 w1) (.mk n2 m2 s2 c2 w2) = some (cauL l) := by rw [← hv]; simp [bothB, bothL]
      unfold causesF at hv
      obtain ⟨x, hx, hxl⟩ := Option.map_eq_some_iff.1 hv
      have hx2 : x = l := by
        have := congrArg entC (show cauL x = cauL l from hxl)
        rwa [entC_cau, entC_cau] at this
      subst hx2
      have hval := goE_ok (P := fun _ => True) (Q := fun v => okV v ∧ isVF t1 v = true) (fun e he => by
        obtain ⟨p, q⟩ := mergeE_mem _ _ _ e (List.mem_filter.1 he).1
        have h1 : okV e.2.1 ∧ isVF t1 e.2.1 = true := p.elim (fun h => ⟨a0.2.2.2 _ (zip_m2 h), ha.2.2 _ (zip_m2 h)⟩) (fun h => ⟨b0.2.2.2 _ (zip_m2 h), hb.2.2 _ (zip_m2 h)⟩)
        refine ⟨trivial, h1, fun y hy => ?_⟩
        obtain ⟨q1, k, q2⟩ := q y hy
        have h2 : okV y ∧ isVF t1 y = true := ⟨b0.2.2.2 _ (zip_m2 q2), hb.2.2 _ (zip_m2 q2)⟩
        exact ⟨h2, fun v hv => ⟨okV_both d t1 (h.2 _ (by simp)) _ _ v h1.1 h2.1 hv, ih _ _ v h1.1 h2.1 h1.2 h2.2 hv⟩⟩) hx
      have hcl : isCauseF (x.map (·.1)) = true := (isCause_iff (w := x.map (·.2)) (by simp) ((okV_mk.1 ov).2.2.1)).2 (by rw [zip_map]; exact ⟨hl.srt, hl.key, hl.len, hl.anti⟩)
      unfold cauL at hcap ⊢
      rw [large_eq] at hcap
      simp at hcap
      rw [isVF_mk 8]
      simp [bareF, numsK, textsK, clocksK, valuesK, Val.nv, Val.mv, Val.sv, Val.cv, Val.vv, isVL, hcl]
      exact ⟨hcap.1, fun a b hab => (hval _ hab).2.2⟩
theorem okV_bot {d : Nat} {s : Sch} (h : isF d s = true) : okV (bottomF s) := (bottom_is d s h).2
theorem is_bot {d : Nat} {s : Sch} (h : isF d s = true) : isVF s (bottomF s) = true := (bottom_is d s h).1
theorem join_right {s : Sch} {a b : Val} (hs : isF 16 s = true) (oa : okV a) (ob : okV b) (ha : isVF s a = true) (hb : isVF s b = true) : (∃ v, joinVF s a b = .ok v ∧ okV v ∧ isVF s v = true ∧ v = jn s a b) ∨ joinVF s a b = .error 13 := by
  unfold joinVF
  rw [if_pos ⟨by rw [hs, ha]; rfl, by rw [hs, hb]; rfl⟩]
  cases h : bothF s a b with
  | none => exact .inr rfl
  | some v => exact .inl ⟨v, rfl, okV_both 16 s hs a b v oa ob h, is_both 16 s hs (by omega) a b v oa ob ha hb h, both_jn 16 s hs a b v (lv_of 16 s hs (by omega) a oa ha) (lv_of 16 s hs (by omega) b ob hb) h⟩
theorem join_wrong {s : Sch} {a b : Val} (h : isF 16 s = false ∨ isVF s a = false ∨ isVF s b = false) : joinVF s a b = .error 14 := join_err fun ⟨h1, h2⟩ => by
  rw [Bool.and_eq_true] at h1 h2
  rcases h with h | h | h
  · rw [h] at h1; exact absurd h1.1 (by decide)
  · rw [h] at h1; exact absurd h1.2 (by decide)
  · rw [h] at h2; exact absurd h2.2 (by decide)
theorem allGo_right {s : Sch} (hs : isF 16 s = true) : ∀ (l : List Val) (b : Val), okV b → isVF s b = true → (∀ x ∈ l, okV x) →
    ((∀ x ∈ l, isVF s x = true) → allGo s b l = .ok (l.foldl (jn s) b) ∨ allGo s b l = .error 13) ∧ ((∃ x ∈ l, isVF s x = false) → allGo s b l = .error 13 ∨ allGo s b l = .error 14)
  | [], b, _, _, _ => ⟨fun _ => .inl rfl, fun ⟨x, hx, _⟩ => by cases hx⟩
  | x :: l, b, ob, hb, ho => by
    have ox := ho x (.head _)
    cases hx : isVF s x with
    | false =>
      refine ⟨fun h => (by have := h x (.head _); rw [hx] at this; cases this), fun _ => .inr ?_⟩
      rw [allGo, join_wrong (.inr (.inr hx))]
    | true =>
      rcases join_right hs ob ox hb hx with ⟨v, hv, ov, iv, ev⟩ | h
      · have ih := allGo_right hs l v ov iv fun y hy => ho y (.tail _ hy)
        rw [allGo, hv]
        refine ⟨fun h => ?_, fun ⟨y, hy, h⟩ => ?_⟩
        · have := ih.1 fun y hy => h y (.tail _ hy)
          rwa [ev] at this ⊢
        · rcases List.mem_cons.1 hy with rfl | hy
          · rw [hx] at h; cases h
          · exact ih.2 ⟨y, hy, h⟩
      · rw [allGo, h]
        exact ⟨fun _ => .inr rfl, fun _ => .inl rfl⟩
theorem AllF_right {s : Sch} {l : List Val} (ho : ∀ x ∈ l, okV x) (hs : isF 16 s = true) : ((∀ x ∈ l, isVF s x = true) → AllF s l = .ok (l.foldl (jn s) (bottomF s)) ∨ AllF s l = .error 13) ∧ ((∃ x ∈ l, isVF s x = false) → AllF s l = .error 13 ∨ AllF s l = .error 14) := by
  unfold AllF
  rw [if_pos hs, bot_eq hs (by omega)]
  exact allGo_right hs l _ (okV_bot hs) (is_bot hs) ho
theorem AllF_no {s : Sch} {l : List Val} (hs : isF 16 s = false) : AllF s l = .error 14 := by unfold AllF; rw [if_neg (by rw [hs]; decide)]
section
variable {P : Val → Prop} {f : Val → Val → Val} {b : Val} (h : SemiB P f b)
include h
theorem fold_P : ∀ (l : List Val) (a : Val), P a → (∀ x ∈ l, P x) → P (l.foldl f a)
  | [], a, ha, _ => ha
  | x :: l, a, ha, hl => fold_P l _ (h.cl a x ha (hl x (.head _))) fun y hy => hl y (.tail _ hy)
theorem bot_l {x : Val} (hx : P x) : f b x = x := by rw [h.comm b x h.bot hx, h.neut x hx]
theorem fold_out : ∀ (l : List Val) (a : Val), P a → (∀ x ∈ l, P x) → l.foldl f a = f a (l.foldl f b)
  | [], a, ha, _ => (h.neut a ha).symm
  | x :: l, a, ha, hl => by
    have hx := hl x (.head _)
    have hl' : ∀ y ∈ l, P y := fun y hy => hl y (.tail _ hy)
    show l.foldl f (f a x) = f a (l.foldl f (f b x))
    rw [fold_out l _ (h.cl a x ha hx) hl', bot_l h hx, fold_out l x hx hl', h.assoc a x _ ha hx (fold_P h l b h.bot hl')]
theorem fold_abs : ∀ (l : List Val) (x : Val), (∀ y ∈ l, P y) → x ∈ l → f x (l.foldl f b) = l.foldl f b
  | y :: l, x, hl, hx => by
    have hy := hl y (.head _)
    have hl' : ∀ z ∈ l, P z := fun z hz => hl z (.tail _ hz)
    have hF := fold_P h l b h.bot hl'
    show f x (l.foldl f (f b y)) = l.foldl f (f b y)
    rw [bot_l h hy, fold_out h l y hy hl']
    rcases List.mem_cons.1 hx with rfl | hx
    · rw [← h.assoc x x _ hy hy hF, h.idem x hy]
    · have px := hl' x hx
      rw [← h.assoc x y _ px hy hF, h.comm x y px hy, h.assoc y x _ hy px hF, fold_abs l x hl' hx]
theorem fold_sub (l : List Val) (hl : ∀ y ∈ l, P y) : ∀ m : List Val, (∀ x ∈ m, x ∈ l) → f (l.foldl f b) (m.foldl f b) = l.foldl f b
  | [], _ => h.neut _ (fold_P h l b h.bot hl)
  | x :: m, hm => by
    have px := hl x (hm x (.head _))
    have hm' : ∀ y ∈ m, y ∈ l := fun y hy => hm y (.tail _ hy)
    have pm : ∀ y ∈ m, P y := fun y hy => hl y (hm' y hy)
    have hL := fold_P h l b h.bot hl
    have hM := fold_P h m b h.bot pm
    show f (l.foldl f b) (m.foldl f (f b x)) = _
    rw [bot_l h px, fold_out h m x px pm, ← h.assoc _ x _ hL px hM, h.comm _ x hL px, fold_abs h l x hl (hm x (.head _)), fold_sub l hl m hm']
theorem fold_same (l m : List Val) (hl : ∀ y ∈ l, P y) (h1 : ∀ x ∈ m, x ∈ l) (h2 : ∀ x ∈ l, x ∈ m) : l.foldl f b = m.foldl f b := by
  have hm : ∀ y ∈ m, P y := fun y hy => hl y (h1 y hy)
  rw [← fold_sub h l hl m h1, h.comm _ _ (fold_P h l b h.bot hl) (fold_P h m b h.bot hm), fold_sub h m hm l h2]
end
theorem AllF_same {s : Sch} {l m : List Val} (ho : ∀ x ∈ l, okV x) (h1 : ∀ x ∈ m, x ∈ l) (h2 : ∀ x ∈ l, x ∈ m) :
    (AllF s l = .error 14 ∧ AllF s m = .error 14) ∨ (∃ e, AllF s l = .error e ∧ (e = 13 ∨ e = 14)) ∧ (∃ e, AllF s m = .error e ∧ (e = 13 ∨ e = 14)) ∨
    (∃ e, AllF s l = .error e ∧ e = 13) ∧ (∃ v, AllF s m = .ok v) ∨ (∃ v, AllF s l = .ok v) ∧ (∃ e, AllF s m = .error e ∧ e = 13) ∨ ∃ v, AllF s l = .ok v ∧ AllF s m = .ok v := by
  have om : ∀ x ∈ m, okV x := fun x hx => ho x (h1 x hx)
  cases hs : isF 16 s with
  | false => exact .inl ⟨AllF_no hs, AllF_no hs⟩
  | true =>
    have a := AllF_right ho hs
    have b := AllF_right om hs
    by_cases hall : ∀ x ∈ l, isVF s x = true
    · have hP : ∀ x ∈ l, LV s x := fun x hx => lv_of 16 s hs (by omega) x (ho x hx) (hall x hx)
      have hf := fold_same (sem 16 s hs) l m hP h1 h2
      rcases a.1 hall with e1 | e1 <;> rcases b.1 (fun x hx => hall x (h1 x hx)) with e2 | e2
      · exact .inr (.inr (.inr (.inr ⟨_, e1, by rw [e2, hf]⟩)))
      · exact .inr (.inr (.inr (.inl ⟨⟨_, e1⟩, 13, e2, rfl⟩)))
      · exact .inr (.inr (.inl ⟨⟨13, e1, rfl⟩, _, e2⟩))
      · exact .inr (.inl ⟨⟨13, e1, .inl rfl⟩, 13, e2, .inl rfl⟩)
    · obtain ⟨x, hx⟩ := Classical.not_forall.1 hall
      obtain ⟨hx, hf⟩ := Classical.not_imp.1 hx
      have hf : isVF s x = false := by simpa using hf
      refine .inr (.inl ⟨?_, ?_⟩)
      · rcases a.2 ⟨x, hx, hf⟩ with e | e
        · exact ⟨13, e, .inl rfl⟩
        · exact ⟨14, e, .inr rfl⟩
      · rcases b.2 ⟨x, h2 x hx, hf⟩ with e | e
        · exact ⟨13, e, .inl rfl⟩
        · exact ⟨14, e, .inr rfl⟩
end Go.Proofs.YtlooahbfpmigfaaGreat
end
section
set_option linter.unusedVariables false
set_option linter.unusedSimpArgs false
namespace Go.MV
open Go Go.RowKit
section
variable {P : Program} {rd : Option Nat} {o : Oper} {env : Env} {σ : MS} {K : MV → MS → Prop}
end
end Go.MV
end
section
set_option linter.unusedVariables false
set_option linter.unusedSimpArgs false
set_option maxRecDepth 20000
set_option maxHeartbeats 400000
namespace Go.Proofs.YtlooahbfpmigfaaGreat
open Go Go.MV
theorem clock_one {p x : Int} (hp : 0 ≤ p ∧ p ≤ 1000000) (hx : 0 < x) : isClockF [(p, x)] = true := by
 unfold isClockF
 rw [Bool.and_eq_true, decide_eq_true_iff, decide_eq_true_iff]
 refine ⟨fun j hj => ?_, by simp⟩
 have : j = 0 := by simp at hj; omega
 subst this
 simp [okAt]
 omega
theorem rem_nat (a b : Nat) : Int.tmod (a : Int) (b : Int) = ((a % b : Nat) : Int) := rfl
theorem i64_nat {m : Nat} (h : m < 9223372036854775808) : IntKind.i64.wrap (m : Int) = (m : Int) := wrap_i64 (by omega)
theorem u64_nat {m : Nat} (h : m < 18446744073709551616) : IntKind.u64.wrap (m : Int) = (m : Int) := wrap_u64 (by omega)
end Go.Proofs.YtlooahbfpmigfaaGreat
end
section
set_option linter.unusedVariables false
set_option linter.unusedSimpArgs false
set_option maxHeartbeats 1000000
set_option maxRecDepth 20000
namespace Go.Proofs.YtlooahbfpmigfaaGreat
open Go Go.MV Go.RowKit Go.Extern.Stop Go.Extern
theorem tT (v : Value) (w : World) : (Extern.ReflectliteType.typeOf #[.iface 62 v]).run Tryz.prog w = .ok (.iface 110 (.agg #[.pointer (some ⟨Tryz.prog.globals.size, 62, none⟩)])) w := by kernel_rfl
theorem cT (w : World) : ((Extern.ReflectliteType.method fun t => do Extern.Rtype.noPackHeld "Comparable" t; pure (.bool (← typeInfo t).comparable)) #[.agg #[.pointer (some ⟨Tryz.prog.globals.size, 62, none⟩)]]).run Tryz.prog w = .ok (.bool true) w := by kernel_rfl
theorem mR (v : Value) (w : World) : (Go.method 317 110 v "Comparable").run Tryz.prog w = .ok (190, v) w := by kernel_rfl
theorem errComp : (Tryz.prog.info? 62).map (·.comparable) = some true := by kernel_rfl
theorem eqErr (n : Int) (w : World) : (binOp .eql 32 (.iface 62 (.int .i64 n)) (.iface 62 (.int .i64 n))).run Tryz.prog w = .ok (.bool true) w := by
  obtain ⟨i, hi, hcmp⟩ := Option.map_eq_some_iff.1 errComp
  have h : ∀ d : Nat, (Op.equalIn (d + 2) 32 (.iface 62 (.int .i64 n)) (.iface 62 (.int .i64 n))).run Tryz.prog w = .ok true w := fun d => by
    simp [Op.equalIn, run_underlying Tryz.underlying32, run_underlying Tryz.underlying62, typeInfo, hi, hcmp]
  simp only [binOp]
  simp [Op.equal, Op.maxDepth, h 9998]
theorem nilErr (v : Value) (w : World) : (binOp .eql 32 (.iface 62 v) .nilIface).run Tryz.prog w = .ok (.bool false) w := by
  have h : ∀ d : Nat, (Op.equalIn (d + 1) 32 (.iface 62 v) .nilIface).run Tryz.prog w = .ok false w := fun d => by simp [Op.equalIn, run_underlying Tryz.underlying32]
  simp only [binOp]
  simp [Op.equal, Op.maxDepth, h 9999]
theorem isSame (n : Int) (w : World) : Calls Tryz.prog 32 #[.iface 62 (.int .i64 n), .iface 62 (.int .i64 n)] w fun e w' => e = .returned (.bool true) ∧ w' = w := by
  have h8 := @run_callFunc_extern Tryz.prog 58 _ Extern.ReflectliteType.typeOf Tryz.func58 (by kernel_rfl) (by kernel_rfl) (by kernel_rfl) (by kernel_rfl)
  have h32 := @run_callFunc_extern Tryz.prog 190 _ (Extern.ReflectliteType.method fun t => do Extern.Rtype.noPackHeld "Comparable" t; pure (.bool (← typeInfo t).comparable)) Tryz.func190 (by kernel_rfl) (by kernel_rfl) (by kernel_rfl) (by kernel_rfl)
  obtain ⟨H, hT, hC⟩ : ∃ H : Value, (∀ (v : Value) (w : World), (callFunc 58 #[.iface 62 v]).run Tryz.prog w = .ok (.value (.iface 110 H)) w) ∧ (∀ w : World, (callFunc 190 #[H]).run Tryz.prog w = .ok (.value (.bool true)) w) := ⟨_, fun v w => by rw [h8, tT]; rfl, fun w => by rw [h32, cT]; rfl⟩
  clear h8 h32
  have mR := mR
  have heq := eqErr n w
  have hnil := nilErr (.int .i64 n) w
  go_enter Tryz.func32, Tryz.ntmps32
  go_wp2
  refine wp_loop_rounds 1 ?_
  rw [rounds_succ]
  go_wp2
  go_ret
  exact ⟨rfl, rfl⟩
theorem errIs_spec (n : Int) (S : MS) : MCalls Tryz.prog 32 [.iface 62 (.int .i64 n), .iface 62 (.int .i64 n)] S fun v σ' => v = .bool true ∧ σ' = S := by
  intro g w vs hrel hrd
  obtain ⟨u, us, rfl, h1, h2⟩ := hrd.uncons
  obtain ⟨u2, us2, rfl, h3, h4⟩ := h2.uncons
  obtain ⟨a, rfl, ha⟩ := h1.inv_iface
  obtain ⟨b, rfl, hb⟩ := h3.inv_iface
  have e1 := ha.inv_int
  have e2 := hb.inv_int
  have e3 : us2 = [] := List.eq_nil_of_length_eq_zero h4.1
  subst e1 e2 e3
  refine (callsIn_wide.2 (isSame n w)).mono ?_
  rintro e w' ⟨rfl, rfl⟩
  exact ⟨_, rfl, .bool true, S, g, ⟨rfl, rfl⟩, hrel, .bool _, .refl _ _⟩
end Go.Proofs.YtlooahbfpmigfaaGreat
end
section
set_option linter.unusedVariables false
set_option linter.unusedSimpArgs false
set_option maxRecDepth 20000
set_option maxHeartbeats 400000
namespace Go.Proofs.YtlooahbfpmigfaaGreat
open Go Go.MV
theorem join_at {s : Sch} {a b : Val} {r : Except Int Val} (ha : okV a) (hb : okV b) (h : joinVF s a b = r) (S : MS) : MCalls Tryz.prog 44 [encS s, encV a, encV b] S fun v σ' => v = encJ r ∧ σ' = S := h ▸ join_spec s a b ha hb S
theorem all_at_ {s : Sch} {l : List Val} {r : Except Int Val} (hl : ∀ x ∈ l, okV x) (h : AllF s l = r) (S : MS) : MCalls Tryz.prog 31 [encS s, .lst none 5 (encVs l)] S fun v σ' => v = encJ r ∧ σ' = S := h ▸ joinAll_spec s l hl S
theorem join_ok_of {s : Sch} {a b v : Val} (hs : isF 16 s = true) (ha : isVF s a = true) (hb : isVF s b = true) (h : bothF s a b = some v) : joinVF s a b = .ok v := by
 unfold joinVF
 rw [if_pos ⟨by rw [hs, ha]; rfl, by rw [hs, hb]; rfl⟩, h]
theorem join_err_b {s : Sch} {a b : Val} (hb : isVF s b = false) : joinVF s a b = .error 14 := join_err fun h => by rw [hb, Bool.and_false] at h; exact absurd h.2 (by decide)
theorem okV_num {a : Int} (h : 0 ≤ a ∧ a < 18446744073709551616) : okV (.mk a 0 [] [] []) := by simp [okV, okVs]; omega
theorem is_num (a : Int) : isVF (.mk 1 []) (.mk a 0 [] [] []) = true := by rw [isVF_mk 1]; rfl
def kA : Val := .mk 0 0 [[97]] [] []
def kB_ : Val := .mk 0 0 [[98]] [] []
def kAB : Val := .mk 0 0 [[97], [98]] [] []
def kX : Val := .mk 0 0 [] [[(1, 1)]] [.mk 9 0 [] [] []]
def kY : Val := .mk 0 0 [] [[(1, 2)]] [.mk 3 0 [] [] []]
theorem kn_set : joinVF (.mk 3 []) kA kB_ = .ok kAB := join_ok_of (by decide) (by unfold kA; rw [isVF_mk 3]; rfl) (by unfold kB_; rw [isVF_mk 3]; rfl) (by
 unfold kA kB_ kAB
 rw [bothF_mk, show bothB 3 (bothL []) (.mk 0 0 [[97]] [] []) (.mk 0 0 [[98]] [] []) = some (.mk 0 0 [[97], [98]] [] []) from congrArg (fun s => some (Val.mk 0 0 s [] [])) (by simp [Val.sv, bothX, Op.bytesLess])]
 rfl)
theorem kn_err : joinVF (.mk 3 []) kAB (.mk 1 0 [] [] []) = .error 14 := join_err_b (by rw [isVF_mk 3]; rfl)
theorem cmp_self (a : List Tk) : cmpF a a = 0 := by unfold cmpF; rw [if_pos rfl]
theorem kn_cmp : cmpF [(1, 1)] [(1, 2)] = -1 ∧ cmpF [(1, 2)] [(1, 1)] = 1 := by
 unfold cmpF
 have h1 : joinF [(1, 1)] [(1, 2)] = [(1, 2)] := by simp [joinF, mergeF, cmpI, Go.MV.bothT]
 have h2 : joinF [(1, 2)] [(1, 1)] = [(1, 2)] := by simp [joinF, mergeF, cmpI, Go.MV.bothT]
 rw [h1, h2]
 decide
theorem is_one8 {p x : Int} {v : Val} {t : Sch} (hp : 0 ≤ p ∧ p ≤ 1000000) (hx : 0 < x) (hv : isVF t v = true) : isVF (.mk 8 [t]) (.mk 0 0 [] [[(p, x)]] [v]) = true := by
 rw [isVF_mk 8]
 simp [isVL, hv, bareF, numsK, textsK, clocksK, valuesK, Val.nv, Val.mv, Val.sv, Val.cv, Val.vv, isCauseF, clock_one hp hx, pairsF]
theorem kn_cause : joinVF (.mk 8 [.mk 1 []]) kX kY = .ok kY := join_ok_of (by decide) (is_one8 (by decide) (by decide) (is_num 9)) (is_one8 (by decide) (by decide) (is_num 3)) (by
 rw [bothF_mk, show bothB 8 (bothL [.mk 1 []]) kX kY = some kY from ?_]
 ·rfl
 ·show causesF (bothF (.mk 1 [])) kX kY = some kY
  have hm : mergedC kX kY = [([(1, 1)], .mk 9 0 [] [] [], none), ([(1, 2)], .mk 3 0 [] [] [], none)] := by
   simp [mergedC, entC, kX, kY, Val.cv, Val.vv, mergeE, byTicksF, tickC, cmpI]
  rw [causesF, hm]
  simp [seenE, kn_cmp.1, kn_cmp.2, cmp_self, goE, ofE, kY])
theorem kn_all : AllF (.mk 3 []) [] = .ok noV := by
 unfold AllF
 rw [if_pos (by decide)]
 rfl
theorem kn_none : noneF (.mk 3 []) noV = true := by unfold noneF; exact decide_eq_true rfl
theorem ok_kn : okV kA ∧ okV kB_ ∧ okV kAB ∧ okV kX ∧ okV kY := by
 refine ⟨?_, ?_, ?_, ?_, ?_⟩ <;> simp [kA, kB_, kAB, kX, kY, okV, okVs, okTk]
theorem knownJ_spec (S : MS) : MCalls Tryz.prog 30 [] S fun v σ' => v = .bool true ∧ σ' = S := by
 refine mcalls_body Tryz.func30 rfl Tryz.ntmps30 (Nat.le_of_ble_eq_true rfl) ?_
 refine mwp_seq <| qR rfl <| qA rfl rfl rfl <| qN <| mwp_seq <| qR rfl <| qO rfl <| op_viewTo (y := encS (.mk 3 [])) (op_build rfl Tryz.underlying37 zm37 (.cons fo37_0 sz3 rfl rfl (Nat.le_of_ble_eq_true rfl) .nil) (by kernel_rfl) ⟨rfl, rfl⟩) (.agg (.cons (.refl _) (.cons (.nil 2) .nil))) ?_
 refine qO rfl <| op_alloc' rfl zm37 rfl rfl <| qO rfl <| op_store' rfl rfl rfl rfl sz37 rfl rfl (Nat.le_of_ble_eq_true rfl) rfl <| qN <| mwp_seq <| qR rfl <| qL rfl rfl rfl rfl ta37 rfl <| qO rfl <| op_buildSlice rfl Tryz.underlying25 el9 rfl rfl (by decide) (by decide) rfl rfl ?_
 refine qO rfl <| op_viewTo (y := encV kA) (op_build rfl Tryz.underlying29 zm29 (.cons fo29_2 sz25 rfl rfl (Nat.le_of_ble_eq_true rfl) .nil) (by kernel_rfl) ⟨rfl, rfl⟩) (.agg (.cons (.refl _) (.cons (.refl _) (.cons (.refl _) (.cons (.nil 1) (.cons (.nil 5) .nil)))))) ?_
 refine qO rfl <| op_buildSlice rfl Tryz.underlying25 el9 rfl rfl (by decide) (by decide) rfl rfl ?_
 refine qO rfl <| op_viewTo (y := encV kB_) (op_build rfl Tryz.underlying29 zm29 (.cons fo29_2 sz25 rfl rfl (Nat.le_of_ble_eq_true rfl) .nil) (by kernel_rfl) ⟨rfl, rfl⟩) (.agg (.cons (.refl _) (.cons (.refl _) (.cons (.refl _) (.cons (.nil 1) (.cons (.nil 5) .nil)))))) ?_
 refine wOps_op rfl (op_call rfl rfl rfl co44 ((join_at ok_kn.1 ok_kn.2.1 kn_set _).mono ?_))
 rintro _ _ ⟨rfl, rfl⟩
 refine qM rfl rfl rfl <| qO rfl <| op_extract rfl rfl rfl <| qO rfl <| op_extract rfl rfl rfl <| qO rfl <| op_alloc' rfl zm29 rfl rfl <| qO rfl <| op_store' rfl rfl rfl rfl sz29 rfl rfl (Nat.le_of_ble_eq_true rfl) rfl <| qA rfl rfl rfl <| qN <| mwp_seq <| qR rfl <| qL rfl rfl rfl rfl ta37 rfl <| qL rfl rfl rfl rfl ta29 rfl <| qO rfl <| op_viewTo (y := encV (.mk 1 0 [] [] [])) (op_build rfl Tryz.underlying29 zm29 (.cons fo29_0 sz24 rfl rfl (Nat.le_of_ble_eq_true rfl) .nil) (by kernel_rfl) ⟨rfl, rfl⟩) (.agg (.cons (.refl _) (.cons (.refl _) (.cons (.nil 1) (.cons (.nil 1) (.cons (.nil 5) .nil)))))) ?_
 refine wOps_op rfl (op_call rfl rfl rfl co44 ((join_at ok_kn.2.2.1 (okV_num (by decide)) kn_err _).mono ?_))
 rintro _ _ ⟨rfl, rfl⟩
 refine qM rfl rfl rfl <| qO rfl <| op_extract rfl rfl rfl <| qO rfl <| op_extract rfl rfl rfl <| qO rfl <| op_alloc' rfl zm29 rfl rfl <| qO rfl <| op_store' rfl rfl rfl rfl sz29 rfl rfl (Nat.le_of_ble_eq_true rfl) rfl <| qA rfl rfl rfl <| qN <| mwp_seq <| qR rfl <| qO rfl <| op_viewTo (y := encS (.mk 1 [])) (op_build rfl Tryz.underlying37 zm37 (.cons fo37_0 sz3 rfl rfl (Nat.le_of_ble_eq_true rfl) .nil) (by kernel_rfl) ⟨rfl, rfl⟩) (.agg (.cons (.refl _) (.cons (.nil 2) .nil))) ?_
 refine qO rfl <| op_buildSlice rfl Tryz.underlying35 el37 rfl rfl (by decide) (by decide) rfl rfl ?_
 refine qO rfl <| op_viewTo (y := encS (.mk 8 [.mk 1 []])) (op_build rfl Tryz.underlying37 zm37 (.cons fo37_0 sz3 rfl rfl (Nat.le_of_ble_eq_true rfl) (.cons fo37_1 sz35 rfl rfl (Nat.le_of_ble_eq_true rfl) .nil)) (by kernel_rfl) ⟨rfl, rfl⟩) (.agg (.cons (.refl _) (.cons (.refl _) .nil))) ?_
 refine qO rfl <| op_alloc' rfl zm37 rfl rfl <| qO rfl <| op_store' rfl rfl rfl rfl sz37 rfl rfl (Nat.le_of_ble_eq_true rfl) rfl <| qN <| mwp_seq <| qR rfl <| qO rfl <| op_build rfl Tryz.underlying72 zm72 (.cons fo72_0 sz3 rfl rfl (Nat.le_of_ble_eq_true rfl) (.cons fo72_1 sz24 rfl rfl (Nat.le_of_ble_eq_true rfl) .nil)) (by kernel_rfl) ?_
 refine qO rfl <| op_buildSlice rfl Tryz.underlying44 el72 rfl rfl (by decide) (by decide) rfl rfl ?_
 refine qO rfl <| op_buildSlice rfl Tryz.underlying26 el44 rfl rfl (by decide) (by decide) rfl rfl ?_
 refine qO rfl <| op_viewTo (y := encV (.mk 9 0 [] [] [])) (op_build rfl Tryz.underlying29 zm29 (.cons fo29_0 sz24 rfl rfl (Nat.le_of_ble_eq_true rfl) .nil) (by kernel_rfl) ⟨rfl, rfl⟩) (.agg (.cons (.refl _) (.cons (.refl _) (.cons (.nil 1) (.cons (.nil 1) (.cons (.nil 5) .nil)))))) ?_
 refine qO rfl <| op_buildSlice rfl Tryz.underlying27 el29 rfl rfl (by decide) (by decide) rfl rfl ?_
 refine qO rfl <| op_viewTo (y := encV kX) (op_build rfl Tryz.underlying29 zm29 (.cons fo29_3 sz26 rfl rfl (Nat.le_of_ble_eq_true rfl) (.cons fo29_4 sz27 rfl rfl (Nat.le_of_ble_eq_true rfl) .nil)) (by kernel_rfl) ⟨rfl, rfl⟩) (.agg (.cons (.refl _) (.cons (.refl _) (.cons (.nil 1) (.cons (.refl _) (.cons (.refl _) .nil)))))) ?_
 refine qO rfl <| op_alloc' rfl zm29 rfl rfl <| qO rfl <| op_store' rfl rfl rfl rfl sz29 rfl rfl (Nat.le_of_ble_eq_true rfl) rfl <| qN <| mwp_seq <| qR rfl <| qO rfl <| op_build rfl Tryz.underlying72 zm72 (.cons fo72_0 sz3 rfl rfl (Nat.le_of_ble_eq_true rfl) (.cons fo72_1 sz24 rfl rfl (Nat.le_of_ble_eq_true rfl) .nil)) (by kernel_rfl) ?_
 refine qO rfl <| op_buildSlice rfl Tryz.underlying44 el72 rfl rfl (by decide) (by decide) rfl rfl ?_
 refine qO rfl <| op_buildSlice rfl Tryz.underlying26 el44 rfl rfl (by decide) (by decide) rfl rfl ?_
 refine qO rfl <| op_viewTo (y := encV (.mk 3 0 [] [] [])) (op_build rfl Tryz.underlying29 zm29 (.cons fo29_0 sz24 rfl rfl (Nat.le_of_ble_eq_true rfl) .nil) (by kernel_rfl) ⟨rfl, rfl⟩) (.agg (.cons (.refl _) (.cons (.refl _) (.cons (.nil 1) (.cons (.nil 1) (.cons (.nil 5) .nil)))))) ?_
 refine qO rfl <| op_buildSlice rfl Tryz.underlying27 el29 rfl rfl (by decide) (by decide) rfl rfl ?_
 refine qO rfl <| op_viewTo (y := encV kY) (op_build rfl Tryz.underlying29 zm29 (.cons fo29_3 sz26 rfl rfl (Nat.le_of_ble_eq_true rfl) (.cons fo29_4 sz27 rfl rfl (Nat.le_of_ble_eq_true rfl) .nil)) (by kernel_rfl) ⟨rfl, rfl⟩) (.agg (.cons (.refl _) (.cons (.refl _) (.cons (.nil 1) (.cons (.refl _) (.cons (.refl _) .nil)))))) ?_
 refine qO rfl <| op_alloc' rfl zm29 rfl rfl <| qO rfl <| op_store' rfl rfl rfl rfl sz29 rfl rfl (Nat.le_of_ble_eq_true rfl) rfl <| qN <| mwp_seq <| qR rfl <| qL rfl rfl rfl rfl ta37 rfl <| qL rfl rfl rfl rfl ta29 rfl <| qL rfl rfl rfl rfl ta29 rfl ?_
 refine wOps_op rfl (op_call rfl rfl rfl co44 ((join_at ok_kn.2.2.2.1 ok_kn.2.2.2.2 kn_cause _).mono ?_))
 rintro _ _ ⟨rfl, rfl⟩
 refine qM rfl rfl rfl <| qO rfl <| op_extract rfl rfl rfl <| qO rfl <| op_extract rfl rfl rfl <| qO rfl <| op_alloc' rfl zm29 rfl rfl <| qO rfl <| op_store' rfl rfl rfl rfl sz29 rfl rfl (Nat.le_of_ble_eq_true rfl) rfl <| qA rfl rfl rfl <| qN <| mwp_seq <| qR rfl <| qL rfl rfl rfl rfl ta37 rfl ?_
 refine wOps_op rfl (op_call rfl rfl rfl co31 (((all_at_ (l := []) (by simp) kn_all _).sub (.cons (.refl _) (.cons (.nil 5) .nil))).mono ?_))
 rintro _ _ ⟨rfl, rfl⟩
 refine qM rfl rfl rfl <| qO rfl <| op_extract rfl rfl rfl <| qO rfl <| op_extract rfl rfl rfl <| qO rfl <| op_alloc' rfl zm29 rfl rfl <| qO rfl <| op_store' rfl rfl rfl rfl sz29 rfl rfl (Nat.le_of_ble_eq_true rfl) rfl <| qA rfl rfl rfl <| qN <| mwp_seq <| qR rfl <| qM rfl rfl rfl <| qO rfl <| op_if0 rfl Tryz.underlying32 rfl rfl (.inl ⟨rfl, rfl⟩) <| qM rfl rfl rfl <| qF rfl rfl rfl fo29_2 <| qL rfl rfl rfl rfl ta25 rfl <| qE rfl rfl Tryz.underlying25 rfl <| qC rfl rfl rfl rfl (show _ = some true from rfl) <| qP rfl rfl rfl rfl ?_
 refine qM rfl rfl rfl <| qM rfl rfl rfl <| qO rfl <| op_makeInterface rfl rfl Tryz.underlying62 (by simp) ?_
 refine wOps_op rfl (op_call rfl rfl rfl co32 ((errIs_spec 14 _).mono ?_))
 rintro _ _ ⟨rfl, rfl⟩
 refine qP rfl rfl rfl rfl <| qM rfl rfl rfl <| qM rfl rfl rfl <| qO rfl <| op_if0 rfl Tryz.underlying32 rfl rfl (.inl ⟨rfl, rfl⟩) <| qP rfl rfl rfl rfl <| qM rfl rfl rfl <| qL rfl rfl rfl rfl ta29 rfl <| qL rfl rfl rfl rfl ta29 rfl ?_
 refine wOps_op rfl (op_call rfl rfl rfl co26 ((rSame_spec kY kY _).mono ?_))
 rintro _ _ ⟨rfl, rfl⟩
 rw [decide_eq_true rfl]
 refine qP rfl rfl rfl rfl <| qM rfl rfl rfl <| qM rfl rfl rfl <| qO rfl <| op_if0 rfl Tryz.underlying32 rfl rfl (.inl ⟨rfl, rfl⟩) <| qP rfl rfl rfl rfl <| qM rfl rfl rfl <| qL rfl rfl rfl rfl ta37 rfl <| qL rfl rfl rfl rfl ta29 rfl ?_
 refine wOps_op rfl (op_call rfl rfl rfl co54 ((rNone_spec (.mk 3 []) noV _).mono ?_))
 rintro _ _ ⟨rfl, rfl⟩
 rw [kn_none]
 refine qP rfl rfl rfl rfl <| qA rfl rfl rfl <| qN <| mwp_ret ?_
 exact ret_tmp (.inr rfl) Tryz.results30 rfl (.of_eq (rfl)) (.bool _) ⟨rfl, rfl⟩
end Go.Proofs.YtlooahbfpmigfaaGreat
end
section
set_option linter.unusedVariables false
set_option linter.unusedSimpArgs false
set_option maxHeartbeats 1000000
set_option maxRecDepth 20000
namespace Go.Proofs.YtlooahbfpmigfaaGreat
open Go Go.MV Go.RowKit Go.Extern.Stop Go.Extern
theorem as112 (v : Value) (w : World) : (Instr.typeAssert (.iface 62 v) 32 112 true).run Tryz.prog w = .ok (.tuple #[.nilIface, .bool false]) w := run_typeAssert_lacksB Tryz.underlying112 (by kernel_rfl) (by kernel_rfl) v 32 w
theorem as115 (v : Value) (w : World) : (Instr.typeAssert (.iface 62 v) 32 115 true).run Tryz.prog w = .ok (.tuple #[.nilIface, .bool false]) w := run_typeAssert_lacksB Tryz.underlying115 (by kernel_rfl) (by kernel_rfl) v 32 w
theorem as117 (v : Value) (w : World) : (Instr.typeAssert (.iface 62 v) 32 117 true).run Tryz.prog w = .ok (.tuple #[.nilIface, .bool false]) w := run_typeAssert_lacksB Tryz.underlying117 (by kernel_rfl) (by kernel_rfl) v 32 w
theorem eqErr2 (n m : Int) (h : n ≠ m) (w : World) : (binOp .eql 32 (.iface 62 (.int .i64 n)) (.iface 62 (.int .i64 m))).run Tryz.prog w = .ok (.bool false) w := by
  obtain ⟨i, hi, hcmp⟩ := Option.map_eq_some_iff.1 errComp
  have h : ∀ d : Nat, (Op.equalIn (d + 2) 32 (.iface 62 (.int .i64 n)) (.iface 62 (.int .i64 m))).run Tryz.prog w = .ok false w := fun d => by
    simp [Op.equalIn, run_underlying Tryz.underlying32, run_underlying Tryz.underlying62, typeInfo, hi, hcmp, h]
  simp only [binOp]
  simp [Op.equal, Op.maxDepth, h 9998]
theorem nilErr2 (v : Value) (w : World) : (binOp .eql 32 .nilIface (.iface 62 v)).run Tryz.prog w = .ok (.bool false) w := by
  have h : ∀ d : Nat, (Op.equalIn (d + 1) 32 .nilIface (.iface 62 v)).run Tryz.prog w = .ok false w := fun d => by simp [Op.equalIn, run_underlying Tryz.underlying32]
  simp only [binOp]
  simp [Op.equal, Op.maxDepth, h 9999]
theorem nilNil (w : World) : (binOp .eql 32 .nilIface .nilIface).run Tryz.prog w = .ok (.bool true) w := by
  have h : ∀ d : Nat, (Op.equalIn (d + 1) 32 .nilIface .nilIface).run Tryz.prog w = .ok true w := fun d => by simp [Op.equalIn, run_underlying Tryz.underlying32]
  simp only [binOp]
  simp [Op.equal, Op.maxDepth, h 9999]
theorem isNone (m : Int) (w : World) : Calls Tryz.prog 32 #[.nilIface, .iface 62 (.int .i64 m)] w fun e w' => e = .returned (.bool false) ∧ w' = w := by
  have h1 := nilNil w
  have h2 := nilErr2 (.int .i64 m) w
  go_enter Tryz.func32, Tryz.ntmps32
  go_wp2
  go_ret
  exact ⟨rfl, rfl⟩
theorem isOther (n m : Int) (h : n ≠ m) (w : World) : Calls Tryz.prog 32 #[.iface 62 (.int .i64 n), .iface 62 (.int .i64 m)] w fun e w' => e = .returned (.bool false) ∧ w' = w := by
  have h8 := @run_callFunc_extern Tryz.prog 58 _ Extern.ReflectliteType.typeOf Tryz.func58 (by kernel_rfl) (by kernel_rfl) (by kernel_rfl) (by kernel_rfl)
  have h32 := @run_callFunc_extern Tryz.prog 190 _ (Extern.ReflectliteType.method fun t => do Extern.Rtype.noPackHeld "Comparable" t; pure (.bool (← typeInfo t).comparable)) Tryz.func190 (by kernel_rfl) (by kernel_rfl) (by kernel_rfl) (by kernel_rfl)
  obtain ⟨H, hT, hC⟩ : ∃ H : Value, (∀ (v : Value) (w : World), (callFunc 58 #[.iface 62 v]).run Tryz.prog w = .ok (.value (.iface 110 H)) w) ∧ (∀ w : World, (callFunc 190 #[H]).run Tryz.prog w = .ok (.value (.bool true)) w) := ⟨_, fun v w => by rw [h8, tT]; rfl, fun w => by rw [h32, cT]; rfl⟩
  clear h8 h32
  have mR := mR
  have as112 := as112
  have as115 := as115
  have as117 := as117
  have heq := eqErr2 n m h w
  have hnil := nilErr (.int .i64 n) w
  have hnil2 := nilErr (.int .i64 m) w
  go_enter Tryz.func32, Tryz.ntmps32
  go_wp2
  refine wp_loop_rounds 1 ?_
  rw [rounds_succ]
  go_wp2
  go_ret
  exact ⟨rfl, rfl⟩
theorem errIs_none (n : Int) (S : MS) : MCalls Tryz.prog 32 [.iface0, .iface 62 (.int .i64 n)] S fun v σ' => v = .bool false ∧ σ' = S := by
  intro g w vs hrel hrd
  obtain ⟨u, us, rfl, h1, h2⟩ := hrd.uncons
  obtain ⟨u2, us2, rfl, h3, h4⟩ := h2.uncons
  obtain ⟨b, rfl, hb⟩ := h3.inv_iface
  have e1 := h1.inv_iface0
  have e2 := hb.inv_int
  have e3 : us2 = [] := List.eq_nil_of_length_eq_zero h4.1
  subst e1 e2 e3
  refine (callsIn_wide.2 (isNone n w)).mono ?_
  rintro e w' ⟨rfl, rfl⟩
  exact ⟨_, rfl, .bool false, S, g, ⟨rfl, rfl⟩, hrel, .bool _, .refl _ _⟩
theorem errIs_other (n m : Int) (h : n ≠ m) (S : MS) : MCalls Tryz.prog 32 [.iface 62 (.int .i64 n), .iface 62 (.int .i64 m)] S fun v σ' => v = .bool false ∧ σ' = S := by
  intro g w vs hrel hrd
  obtain ⟨u, us, rfl, h1, h2⟩ := hrd.uncons
  obtain ⟨u2, us2, rfl, h3, h4⟩ := h2.uncons
  obtain ⟨a, rfl, ha⟩ := h1.inv_iface
  obtain ⟨b, rfl, hb⟩ := h3.inv_iface
  have e1 := ha.inv_int
  have e2 := hb.inv_int
  have e3 : us2 = [] := List.eq_nil_of_length_eq_zero h4.1
  subst e1 e2 e3
  refine (callsIn_wide.2 (isOther n m h w)).mono ?_
  rintro e w' ⟨rfl, rfl⟩
  exact ⟨_, rfl, .bool false, S, g, ⟨rfl, rfl⟩, hrel, .bool _, .refl _ _⟩
end Go.Proofs.YtlooahbfpmigfaaGreat
end
