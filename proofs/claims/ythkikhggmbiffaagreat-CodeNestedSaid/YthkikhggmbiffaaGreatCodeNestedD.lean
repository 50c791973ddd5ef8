/-
  Texts on which the proof of CodeNested leans: part 4.
-/
import Derived.Test.YthkikhggmbiffaaGreatCodeNestedC
import Derived.Lib.AppendStr
import Derived.Lib.UnsafeStr
import Derived.Lib.Builder
import Derived.Lib.Bytealg
import Derived.Laws.Externs
import Derived.Laws.MakeOwn
import Derived.Laws.IdiomStrings
import Derived.Deep.Slices
import Derived.ChangeSame
import Derived.ProofKit
import Derived.OpenShut
import Derived.ChangeOld
import Derived.SizedLaws
import Derived.Carry
section
set_option linter.unusedVariables false
set_option linter.unusedSimpArgs false
set_option maxRecDepth 20000
set_option maxHeartbeats 400000
namespace Go.Proofs.YthkikhggmbiffaaGreat
open Go Go.MV Go.RowKit
section
variable {S : MS} {id ty : Nat} {k : Int} {ss : List Sch} {r : RdS} {v : List MV} {n : Nat}
theorem sT_get0 {j : Nat} {o : MObj} (h : (obJ S id k ss v ty n)[j]? = some o) : (sT S id k ss ty r v n)[S.length + j]? = some o := by
 have := sT_get (r := r) (L := []) h
 rwa [List.append_nil] at this
theorem sT_v0 {v' : List MV} : (sT S id k ss ty r v n).set (S.length + 3) (.cells v') = sT S id k ss ty r v' n := by
 have := sT_v (S := S) (r := r) (v := v) (id := id) (ty := ty) (k := k) (ss := ss) (n := n) (L := []) (v' := v')
 rwa [List.append_nil, List.append_nil] at this
theorem sT_2 {x : List MV} : (sT S id k ss ty r v n).set (S.length + 2) (.cells x) = S.set id (rdO r) ++ [.cells [.ref id 0], .cells [.int .i64 k, .lst none 2 (encSs ss)], .cells x, .cells v, .cells [fOne S], .row ty 1 n] := by
 unfold sT
 rw [own_setS (by simp)]
 rfl
end
theorem value4 (d : Nat) (ih : ∀ s, isF d s = true → ∀ id, Reads 25 [.ref id 0, encS s] id encV (valueM s)) (k1 : Int) (i1 : List Sch) (hd : True ∧ ∀ x ∈ [Sch.mk k1 i1], isF d x = true) (id : Nat) : Reads 25 [.ref id 0, encS (.mk 4 [.mk k1 i1])] id encV (valueM (.mk 4 [.mk k1 i1])) := by
 intro r S h hlen
 refine mcalls_body Tryz.func25 rfl Tryz.ntmps25 (Nat.le_of_ble_eq_true rfl) ?_
 refine mwp_facts fun _ hcl => ?_
 rw [List.append_nil] at hcl
 have hidl := (List.getElem?_eq_some_iff.1 h).1
 refine mwp_seq <| qR rfl <| qB rfl rfl rfl rfl rfl <| qB rfl rfl rfl rfl rfl <| qO rfl <| op_alloc' rfl zm30 rfl rfl <| qN <| mwp_seq <| qR rfl <| qO rfl <| op_alloc' rfl zm30 rfl rfl <| qN <| mwp_seq <| qR rfl <| qO rfl <| op_makeFunc rfl rfl rfl <| qO rfl <| op_alloc' rfl zm83 rfl rfl <| qO rfl <| op_store' rfl rfl rfl rfl sz83 rfl rfl (Nat.le_of_ble_eq_true rfl) rfl <| qN <| mwp_seq <| mwp_seq <| qR rfl <| qF rfl rfl rfl fo24_0 <| qL rfl rfl rfl rfl ta3 rfl ?_
 refine qN <| mwp_block <| mwp_seq <| mwp_seq <| qR rfl <| qC rfl rfl rfl rfl rfl <| qA rfl rfl rfl <| qN <| mwp_cond_f rfl (rfl) <| qR rfl <| qC rfl rfl rfl rfl rfl <| qA rfl rfl rfl <| qN <| mwp_cond_f rfl (rfl) <| mwp_seq <| qR rfl <| qC rfl rfl rfl rfl rfl <| qA rfl rfl rfl <| qN <| mwp_cond_f rfl (rfl) <| mwp_seq <| qR rfl <| qC rfl rfl rfl rfl rfl ?_
 refine qA rfl rfl rfl <| qN <| mwp_cond_t rfl (rfl) <| mwp_cellrowAt 3 2 9 1 rfl rfl (Nat.le_refl _) rfl rfl ?_
 refine mwp_facts fun _ hcl7 => ?_
 have hS0 : S ++ obJ S id 4 [.mk k1 i1] (vM S []) 9 0 = sT S id 4 [.mk k1 i1] 9 r (vM S (([] : List (Bs)).map encX)) ([] : List (Bs)).length := by
  unfold sT
  rw [set_self_rd h]
  rfl
 have hT : RdT (γ := List (Bs)) id (S.length + 6) (fun (r : RdS) (c : List (Bs)) => sT S id 4 [.mk k1 i1] 9 r (vM S (c.map encX)) c.length) := ⟨fun _ _ => sT_rd h, fun _ _ _ => sT_set h, fun _ _ => sT_len, fun r' c' => by
  have h8 : ClS (sT S id 4 [.mk k1 i1] 9 r (vM S (([] : List (Bs)).map encX)) ([] : List (Bs)).length ++ []) := by rw [List.append_nil, ← hS0]; exact hcl7
  have h9 := sT_cls (r' := r') (n' := c'.length) h h8 (fun m hm => cl_vM hm c')
  rwa [List.append_nil] at h9⟩
 have hone := one_reads 4 k1 i1 [] (valueM (.mk k1 i1)) id (S.length + 0) (S.length + 1) (ih (.mk k1 i1) (hd.2 _ (by simp)) id)
 obtain ⟨q, hq⟩ : ∃ q, (rowC (entM (valueM (.mk k1 i1))) r []) = q := ⟨_, rfl⟩
 have hrow : MCalls Tryz.prog 47 [.ref id 0, .fn (.func 48) [] [.ref (S.length + 3) 0, .ref (S.length + 0) 0, .ref (S.length + 4) 0]] (sT S id 4 [.mk k1 i1] 9 r (vM S (([] : List (Bs)).map encX)) ([] : List (Bs)).length) fun v σ' => v = .lst none 5 (q.1.map encV) ∧ σ' = sT S id 4 [.mk k1 i1] 9 q.2.1 (vM S (q.2.2.map encX)) q.2.2.length := by
  have hrow0 := rowV_spec hT (c0 := []) (I := fun j c => c.length = j) co48 rfl (fun j r c hj => by simp [entM, hj]) (fun j r c L hj hi hl hn => ent_one (.mk k1 i1) [] h hone (fun r' c' L r c hh => sT_cls h hh (fun m hm => cl_vM hm c')) r c L hl (by omega)) (entM_len (valueM_len (.mk k1 i1))) r hlen
  rw [hq] at hrow0
  exact hrow0
 have hE : valueM (.mk 4 [.mk k1 i1]) r = (.mk 0 0 (rowC (entM (valueM (.mk k1 i1))) r []).2.2 [] (rowC (entM (valueM (.mk k1 i1))) r []).1, (rowC (entM (valueM (.mk k1 i1))) r []).2.1) := by
  rw [valueM, valueMs, valueMs]
  simp [kindM, mapM]
 rw [hq] at hE
 show mwp _ _ _ _ _ _ _ (S ++ obJ S id 4 [.mk k1 i1] (vM S []) 9 0)
 rw [hS0]
 refine qR rfl <| qO rfl <| op_load_ref rfl rfl (sT_get0 rfl) ta62 rfl <| qO rfl <| op_makeFunc rfl rfl rfl ?_
 refine wOps_op rfl (op_call rfl rfl rfl co47 ((hrow).mono ?_))
 rintro _ _ ⟨rfl, rfl⟩
 refine qF rfl rfl rfl fo30_4 <| qO rfl <| op_store (id := S.length + 3) rfl rfl rfl (sT_get0 rfl) sz28 rfl rfl (Nat.le_of_ble_eq_true rfl) ?_
 rw [sT_v0]
 refine qN <| mwp_seq <| qR rfl <| qO rfl <| op_load_ref rfl rfl (sT_get0 rfl) ta30 rfl <| qO rfl <| op_store (id := S.length + 2) rfl rfl rfl (sT_get0 rfl) sz30 rfl rfl (Nat.le_of_ble_eq_true rfl) ?_
 rw [sT_2]
 refine qN <| mwp_ret ?_
 exact ret_cellS (y := encV (.mk 0 0 q.2.2 [] q.1)) (by simp) (.inr rfl) Tryz.results25 rfl rfl ta30 rfl (.agg (.cons (.refl _) (.cons (.refl _) (.cons (.view _ _ _) (.cons (.nil 1) (.cons (.of_eq (by rw [encVs_eq])) .nil)))))) (cl_encV _ _) (hcl.set (rd_cl _ _)) ⟨by rw [hE], by rw [hE]⟩
theorem value8 (d : Nat) (ih : ∀ s, isF d s = true → ∀ id, Reads 25 [.ref id 0, encS s] id encV (valueM s)) (k1 : Int) (i1 : List Sch) (hd : True ∧ ∀ x ∈ [Sch.mk k1 i1], isF d x = true) (id : Nat) : Reads 25 [.ref id 0, encS (.mk 8 [.mk k1 i1])] id encV (valueM (.mk 8 [.mk k1 i1])) := by
 intro r S h hlen
 refine mcalls_body Tryz.func25 rfl Tryz.ntmps25 (Nat.le_of_ble_eq_true rfl) ?_
 refine mwp_facts fun _ hcl => ?_
 rw [List.append_nil] at hcl
 have hidl := (List.getElem?_eq_some_iff.1 h).1
 refine mwp_seq <| qR rfl <| qB rfl rfl rfl rfl rfl <| qB rfl rfl rfl rfl rfl <| qO rfl <| op_alloc' rfl zm30 rfl rfl <| qN <| mwp_seq <| qR rfl <| qO rfl <| op_alloc' rfl zm30 rfl rfl <| qN <| mwp_seq <| qR rfl <| qO rfl <| op_makeFunc rfl rfl rfl <| qO rfl <| op_alloc' rfl zm83 rfl rfl <| qO rfl <| op_store' rfl rfl rfl rfl sz83 rfl rfl (Nat.le_of_ble_eq_true rfl) rfl <| qN <| mwp_seq <| mwp_seq <| qR rfl <| qF rfl rfl rfl fo24_0 <| qL rfl rfl rfl rfl ta3 rfl ?_
 refine qN <| mwp_block <| mwp_seq <| mwp_seq <| qR rfl <| qC rfl rfl rfl rfl rfl <| qA rfl rfl rfl <| qN <| mwp_cond_f rfl (rfl) <| qR rfl <| qC rfl rfl rfl rfl rfl <| qA rfl rfl rfl <| qN <| mwp_cond_f rfl (rfl) <| mwp_seq <| qR rfl <| qC rfl rfl rfl rfl rfl <| qA rfl rfl rfl <| qN <| mwp_cond_f rfl (rfl) <| mwp_seq <| qR rfl <| qC rfl rfl rfl rfl rfl ?_
 refine qA rfl rfl rfl <| qN <| mwp_cond_f rfl (rfl) <| mwp_seq <| qR rfl <| qC rfl rfl rfl rfl rfl <| qA rfl rfl rfl <| qN <| mwp_cond_f rfl (rfl) <| mwp_seq <| qR rfl <| qC rfl rfl rfl rfl rfl <| qA rfl rfl rfl <| qN <| mwp_cond_f rfl (rfl) <| mwp_seq <| qR rfl <| qC rfl rfl rfl rfl rfl <| qA rfl rfl rfl <| qN <| mwp_cond_f rfl (rfl) <| mwp_cellrowAt 3 3 70 1 rfl rfl (Nat.le_refl _) rfl rfl ?_
 refine mwp_facts fun _ hcl7 => ?_
 have hS0 : S ++ obJ S id 8 [.mk k1 i1] (vS S []) 70 0 = sT S id 8 [.mk k1 i1] 70 r (vS S (([] : List (List Tk)).map encC)) ([] : List (List Tk)).length := by
  unfold sT
  rw [set_self_rd h]
  rfl
 have hT : RdT (γ := List (List Tk)) id (S.length + 6) (fun (r : RdS) (c : List (List Tk)) => sT S id 8 [.mk k1 i1] 70 r (vS S (c.map encC)) c.length) := ⟨fun _ _ => sT_rd h, fun _ _ _ => sT_set h, fun _ _ => sT_len, fun r' c' => by
  have h8 : ClS (sT S id 8 [.mk k1 i1] 70 r (vS S (([] : List (List Tk)).map encC)) ([] : List (List Tk)).length ++ []) := by rw [List.append_nil, ← hS0]; exact hcl7
  have h9 := sT_cls (r' := r') (n' := c'.length) h h8 (fun m hm => cl_vS hm c')
  rwa [List.append_nil] at h9⟩
 have hone := one_reads 8 k1 i1 [] (valueM (.mk k1 i1)) id (S.length + 0) (S.length + 1) (ih (.mk k1 i1) (hd.2 _ (by simp)) id)
 obtain ⟨q, hq⟩ : ∃ q, (rowC (sibM (valueM (.mk k1 i1))) r []) = q := ⟨_, rfl⟩
 have hrow : MCalls Tryz.prog 47 [.ref id 0, .fn (.func 51) [] [.ref (S.length + 3) 0, .ref (S.length + 0) 0, .ref (S.length + 4) 0]] (sT S id 8 [.mk k1 i1] 70 r (vS S (([] : List (List Tk)).map encC)) ([] : List (List Tk)).length) fun v σ' => v = .lst none 5 (q.1.map encV) ∧ σ' = sT S id 8 [.mk k1 i1] 70 q.2.1 (vS S (q.2.2.map encC)) q.2.2.length := by
  have hrow0 := rowV_spec hT (c0 := []) (I := fun j c => c.length = j) co51 rfl (fun j r c hj => by simp [sibM, hj]) (fun j r c L hj hi hl hn => sib_one (.mk k1 i1) [] h hone (fun r' c' L r c hh => sT_cls h hh (fun m hm => cl_vS hm c')) r c L hl (by omega)) (sibM_len (valueM_len (.mk k1 i1))) r hlen
  rw [hq] at hrow0
  exact hrow0
 have hE : valueM (.mk 8 [.mk k1 i1]) r = (.mk 0 0 [] (rowC (sibM (valueM (.mk k1 i1))) r []).2.2 (rowC (sibM (valueM (.mk k1 i1))) r []).1, (rowC (sibM (valueM (.mk k1 i1))) r []).2.1) := by
  rw [valueM, valueMs, valueMs]
  simp [kindM, sibsM]
 rw [hq] at hE
 show mwp _ _ _ _ _ _ _ (S ++ obJ S id 8 [.mk k1 i1] (vS S []) 70 0)
 rw [hS0]
 refine qR rfl <| qO rfl <| op_load_ref rfl rfl (sT_get0 rfl) ta62 rfl <| qO rfl <| op_makeFunc rfl rfl rfl ?_
 refine wOps_op rfl (op_call rfl rfl rfl co47 ((hrow).mono ?_))
 rintro _ _ ⟨rfl, rfl⟩
 refine qF rfl rfl rfl fo30_4 <| qO rfl <| op_store (id := S.length + 3) rfl rfl rfl (sT_get0 rfl) sz28 rfl rfl (Nat.le_of_ble_eq_true rfl) ?_
 rw [sT_v0]
 refine qN <| mwp_seq <| qR rfl <| qO rfl <| op_load_ref rfl rfl (sT_get0 rfl) ta30 rfl <| qO rfl <| op_store (id := S.length + 2) rfl rfl rfl (sT_get0 rfl) sz30 rfl rfl (Nat.le_of_ble_eq_true rfl) ?_
 rw [sT_2]
 refine qN <| mwp_ret ?_
 exact ret_cellS (y := encV (.mk 0 0 [] q.2.2 q.1)) (by simp) (.inr rfl) Tryz.results25 rfl rfl ta30 rfl (.agg (.cons (.refl _) (.cons (.refl _) (.cons (.nil 1) (.cons (.view _ _ _) (.cons (.of_eq (by rw [encVs_eq])) .nil)))))) (cl_encV _ _) (hcl.set (rd_cl _ _)) ⟨by rw [hE], by rw [hE]⟩
theorem value_reads (d : Nat) : ∀ s, isF d s = true → ∀ id, Reads 25 [.ref id 0, encS s] id encV (valueM s) := by
 induction d with
 | zero => intro s h; simp [isF] at h
 | succ d ih =>
  rintro ⟨k, ins⟩ hd id
  rw [isF] at hd
  simp only [Bool.and_eq_true, List.all_eq_true, beq_iff_eq] at hd
  rcases k8_of hd.1 with rfl | rfl | rfl | rfl | rfl | rfl | rfl | rfl
  ·have h := flat_reads 1 ins (by omega) id
   rwa [show flatM 1 = valueM (.mk 1 ins) by rw [valueM, kindM, if_pos (by omega)]] at h
  ·have h := flat_reads 2 ins (by omega) id
   rwa [show flatM 2 = valueM (.mk 2 ins) by rw [valueM, kindM, if_pos (by omega)]] at h
  ·have h := flat_reads 3 ins (by omega) id
   rwa [show flatM 3 = valueM (.mk 3 ins) by rw [valueM, kindM, if_pos (by omega)]] at h
  ·obtain ⟨⟨k1, i1⟩, rfl⟩ := one_ins hd.1 (by decide)
   exact value4 d ih k1 i1 ⟨trivial, hd.2⟩ id
  ·obtain ⟨⟨k1, i1⟩, ⟨k2, i2⟩, rfl⟩ := two_of hd.1
   exact value5 d ih k1 i1 k2 i2 ⟨trivial, hd.2⟩ id
  ·exact value6 ins id
  ·exact value7 ins id
  ·obtain ⟨⟨k1, i1⟩, rfl⟩ := one_ins hd.1 (by decide)
   exact value8 d ih k1 i1 ⟨trivial, hd.2⟩ id
end Go.Proofs.YthkikhggmbiffaaGreat
end
section
set_option linter.unusedVariables false
set_option linter.unusedSimpArgs false
namespace Go.MV
open Go Go.RowKit
section
variable {P : Program} {rd : Option Nat} {o : Oper} {env : Env} {σ : MS} {K : MV → MS → Prop}
theorem gets_appendS {g : Gh} {w : World} (hr : Rel g σ w) {tt tu ty' e sz bytes t n : Nat} (hsz1 : sz = 1) (hu : P.underlying tt = some (.slice e)) (hut : P.underlying tu = some .string) (he : elemOk P e sz bytes = true) (hσ : σ[t]? = some (.row e sz n)) {xs ys : List MV} {l : Bs} (hys : ys = l.map encY) {v : Value} (hx : Rd g w (.lst (some t) sz xs) v) (hn : xs.length = n)
   (hbound : (n + ys.length) * bytes ≤ 140737488355328) (hml : n + ys.length ≤ 4611686018427387904) (hK : K (.lst (some t) sz (xs ++ ys)) (σ.set t (.row e sz (n + ys.length)))) :
    ∃ v' w', (Builtin.append_ #[tt, tu] ty' #[v, .string (bs l)]).run P w = .ok v' w' ∧ Gets g w K v' w' := by
  obtain ⟨i, z, hi, hz, hs, hb, hzs, hpos⟩ := elemOk_spec he
  obtain ⟨a, c, us, hv, h1, h2, h3, h4, h5, h6⟩ := hx.inv_lst
  have hbl0 : (bs l).size = l.length := by simp [bs, ByteArray.size]
  have hyl : l.length = ys.length := by rw [hys, List.length_map]
  rw [hyl] at hbl0
  obtain ⟨us', hus'⟩ : ∃ us', us' = Lib.strCells (bs l) := ⟨_, rfl⟩
  have k3 : ∀ y ∈ ys, y.cells.length = sz := fun y hy => by
    rw [hys] at hy
    obtain ⟨b, _, rfl⟩ := List.mem_map.1 hy
    rw [hsz1]; rfl
  have hfys : flat ys = ys := by rw [hys, flat_encY]
  have k4 : Rds g w (flat ys) us' := by
    rw [hfys, hys, hus']
    refine ⟨by simp [Lib.strCells, bs], fun j y u hy hu => ?_⟩
    simp only [Lib.strCells, bs] at hu
    rw [List.getElem?_map] at hy hu
    obtain ⟨b, hb, rfl⟩ := Option.map_eq_some_iff.1 hy
    rw [hb] at hu
    injection hu with hu
    rw [← hu]
    exact .int _ _
  have hsmall : n + ys.length ≤ maxLen := by simp only [maxLen]; omega
  have hlen' : us'.length = ys.length * i.size := by rw [hs, k4.1, flat_length k3]
  have hlen : us.length = n * i.size := by rw [hs, h4.1, flat_length h3, hn]
  by_cases hm : ys = []
  · have hl0 : l = [] := List.eq_nil_of_length_eq_zero (by rw [hyl, hm]; rfl)
    subst hl0
    rw [hm] at hK
    simp only [List.append_nil, List.length_nil, Nat.add_zero] at hK
    rw [set_self hσ] at hK
    refine ⟨v, w, ?_, .same hK hr hx⟩
    subst hv
    have e0 : (bs []).size = 0 := rfl
    have e1 : ((bs []).extract 0 0).data = #[] := rfl
    cases a with
    | none => simp [Builtin.append_, run_underlying hu, run_underlying hut, sizeOf, typeInfo, hi, Builtin.lenOf, Builtin.firstCells, h1, e0, e1]
    | some ad => simp [Builtin.append_, run_underlying hu, run_underlying hut, sizeOf, typeInfo, hi, Builtin.lenOf, Builtin.firstCells, h1, e0, e1, storeCells]
  have hmpos : 0 < ys.length := List.length_pos_iff.2 hm
  have hp' : 0 < us'.length := by rw [hlen', hs]; exact Nat.mul_pos hmpos hpos
  have hone : ∀ u ∈ us', u.oneCell' = true := by rw [hus']; exact Lib.strCells_oneCell _
  have hone0 : ∀ u ∈ us, u.oneCell' = true := fun u hmem => by
    obtain ⟨j, hj⟩ := List.getElem?_of_mem hmem
    obtain ⟨_, _, hst⟩ := h5 j u hj
    exact hst.2.2
  have holds : ∀ (j : Nat) (u : Value), us[j]? = some u → ∃ ad, a = some ad ∧ w.cell? (ad.add j) = some u := fun j u hj => by
    obtain ⟨ad2, e2, hst⟩ := h5 j u hj
    exact ⟨ad2, e2, hst.2.1⟩
  obtain ⟨own, ho⟩ := hr.ex
  obtain ⟨v0, us0, f1, f2, f3, f4, f5⟩ := ho.obj t _ hσ
  have hvv : v0 = v := by
    have := h6 t rfl
    rw [hn, f1] at this
    injection this
  subst hvv
  have hall3 : ∀ x ∈ xs ++ ys, x.cells.length = sz := fun x hx => by
    rcases List.mem_append.1 hx with h | h
    · exact h3 x h
    · exact k3 x h
  have hallone : ∀ u ∈ us ++ us', u.oneCell' = true := fun u hu => by
    rcases List.mem_append.1 hu with h | h
    · exact hone0 u h
    · exact hone u h
  have hfl : flat (xs ++ ys) = flat xs ++ flat ys := flat_append xs ys
  have hlenx : (xs ++ ys).length = n + ys.length := by rw [List.length_append, hn]
  have fresh_case : ∀ (cap : Nat) (rest : Array Value), n + ys.length ≤ cap → cap ≤ maxLen → rest.size = (cap - (n + ys.length)) * sz →
      Gets g w K (.slice (some ⟨w.heap.size, 0, none⟩) (n + ys.length) cap) (w.drew.alloc (.cells (us.toArray ++ us'.toArray ++ rest) e)) := by
    intro cap rest hcap hcm hrest
    have harr : us.toArray ++ us'.toArray ++ rest = (us ++ us' ++ rest.toList).toArray := by
      apply Array.ext'
      simp
    rw [harr]
    have hr1 := hr.drew
    have l1 := Le.drew g w
    have l2 := Le.alloc_stab hr1 (.cells (us ++ us' ++ rest.toList).toArray e) ((n + ys.length) * sz)
    have r2 := hr1.alloc_stab (.cells (us ++ us' ++ rest.toList).toArray e) ((n + ys.length) * sz)
    generalize hg1 : g.stab w.drew.heap.size ((n + ys.length) * sz) = g1 at l2 r2
    generalize hw1 : w.drew.alloc (.cells (us ++ us' ++ rest.toList).toArray e) = w1 at l2 r2
    have ho1 : Owns g1 σ w1 own := by
      refine ho.keep (l1.trans l2) (fun id b e => ?_) (fun _ _ => by rw [← hg1]; rfl)
      have hlt := (ho.lt id b e).2.2
      rw [← hg1, ← hw1]
      refine ⟨Below.heap_alloc w.drew _ b hlt, ?_⟩
      simp only [Gh.stab]
      exact if_neg (Nat.ne_of_lt hlt)
    have l3 : Le g1 w1 (g1.log t (n + ys.length) (.slice (some ⟨w.heap.size, 0, none⟩) (n + ys.length) cap)) w1 := by
      refine ⟨⟨rfl, rfl, fun _ _ h => ⟨h, rfl⟩, fun _ _ h => h, fun s k u hv => ?_, Nat.le_refl _⟩, fun _ _ h => h⟩
      simp only [Gh.log]
      rw [if_neg]
      · exact hv
      · rintro ⟨rfl, rfl⟩
        have : g1.lg s (n + ys.length) = g.lg s (n + ys.length) := by rw [← hg1]; rfl
        rw [this, f5 _ (by omega)] at hv
        cases hv
    have hheap : w1.heap[w.heap.size]? = some (.cells (us ++ us' ++ rest.toList).toArray e (0, 0)) := by rw [← hw1]; exact heap_new w.drew _
    have hsz : w1.heap.size = w.heap.size + 1 := by rw [← hw1]; simp
    have hcurlen : (us ++ us' ++ rest.toList).length = cap * sz := by
      simp only [List.length_append, hlen, hlen', hs, Array.length_toList, hrest]
      rw [← Nat.add_mul, ← Nat.add_mul]
      congr 1
      omega
    have hlall : (us ++ us').length = (n + ys.length) * sz := by rw [List.length_append, hlen, hlen', hs, Nat.add_mul]
    have lall := l1.trans (l2.trans l3)
    refine ⟨_, _, g1.log t (n + ys.length) (.slice (some ⟨w.heap.size, 0, none⟩) (n + ys.length) cap), hK, ?_, ?_, lall⟩
    · refine Rel.row_set r2 hσ ho1 l3 r2.below r2.fresh rfl (fun id k hid => ?_) (fun id b hid hb => ⟨rfl, rfl⟩) (ob := some w.heap.size) ?_ (fun id b hid hb e => ?_) (fun b hb => ?_)
      · simp only [Gh.log]; rw [if_neg (fun h => hid h.1)]
      · refine ⟨.slice (some ⟨w.heap.size, 0, none⟩) (n + ys.length) cap, us ++ us', by simp [Gh.log], ?_, rfl, fun b hb => ?_, fun k hk => ?_⟩
        · refine ⟨hlall, .inr ⟨w.heap.size, cap, _, rfl, ?_, hheap, hcap, hcm, by simpa using hcurlen, ?_⟩⟩
          · have : (g1.log t (n + ys.length) (.slice (some ⟨w.heap.size, 0, none⟩) (n + ys.length) cap)).B = g.B := lall.B
            rw [this]
            exact hr.size
          · rw [← hlall]
            exact List.take_left
        · injection hb with hb
          subst hb
          rw [← hg1]
          simp only [Gh.log, Gh.stab]
          exact if_pos rfl
        · simp only [Gh.log]
          rw [if_neg (by omega), ← hg1]
          exact f5 k (by omega)
      · have := (ho.lt id b hb).2.2
        injection e with e
        omega
      · injection hb with hb
        subst hb
        refine ⟨?_, by omega⟩
        rw [← hg1]
        exact hr.size
    · refine .lst' hlenx hcap hcm hall3 (us := us ++ us') ?_ (fun j u hj => ⟨⟨w.heap.size, 0, none⟩, rfl, ?_⟩) (fun s hs => ?_)
      · rw [hfl]
        exact (h4.mono lall).append (k4.mono lall)
      · have hjl : j < (us ++ us').length := (List.getElem?_eq_some_iff.1 hj).1
        refine ⟨?_, ?_, hallone u (List.mem_of_getElem? hj)⟩
        · rw [add_off]
          show 0 + j < (g1.log t _ _).st w.heap.size
          rw [← hg1]
          simp only [Gh.log, Gh.stab]
          have : (if w.heap.size = w.drew.heap.size then (n + ys.length) * sz else g.st w.heap.size) = (n + ys.length) * sz := if_pos rfl
          rw [this]
          omega
        · rw [add_off]
          simp only [World.cell?, hheap]
          simp only [Nat.zero_add, Option.isSome_none, Bool.false_eq_true, if_false]
          rw [List.getElem?_toArray, List.getElem?_append_left hjl]
          exact hj
      · injection hs with hs
        subst hs
        simp [Gh.log]
  rcases f2.2 with ⟨hv0, hn0⟩ | ⟨b, cap, cur, hv0, hbB, hheap, hnc, hcm, hcs, htake⟩
  ·
    rw [hv0] at hv
    injection hv with ea en ec
    subst hv0
    have hus : us = [] := List.eq_nil_of_length_eq_zero (by rw [hlen, hn0]; simp)
    have hrun := run_append_nil_string (P := P) w tt tu ty' e i z hu hut hi hz (bs l) (by omega) (by omega) (by rw [hb, hbl0]; rw [hn0] at hbound; simp only [Nat.zero_add] at hbound; omega)
    rw [hbl0, show Array.map (fun b : UInt8 => Value.int .u8 (b.toNat : Int)) (bs l).data = us'.toArray by rw [hus']; apply Array.ext'; simp [Lib.strCells]] at hrun
    have hfc := fresh_case (grownCap w ys.length 0 e) (Builtin.zeroCells z.cells (grownCap w ys.length 0 e - ys.length)) (by rw [hn0, Nat.zero_add]; exact grownCap_ge w _ _ _) (grownCap_le_maxLen w _ _ _ (by rw [hn0] at hsmall; omega)) (by rw [size_zeroCells, hzs, hn0]; simp)
    rw [hus, hn0] at hfc
    simp only [Nat.zero_add, Array.empty_append] at hfc
    refine ⟨_, _, hrun, ?_⟩
    have e1 : #[] ++ us'.toArray = us'.toArray := Array.empty_append
    exact hfc
  · have hvb : a = some ⟨b, 0, none⟩ ∧ c = cap := by
      rw [hv0] at hv
      injection hv with e1 e2 e3
      exact ⟨e1.symm, e3.symm⟩
    obtain ⟨rfl, rfl⟩ := hvb
    have holds' : ∀ (j : Nat) (u : Value), us[j]? = some u → w.cell? ((⟨b, 0, none⟩ : Addr).add j) = some u := fun j u hj => by
      obtain ⟨ad2, e2, h⟩ := holds j u hj
      injection e2 with e2
      subst e2
      exact h
    by_cases hroom : n + ys.length ≤ c
    ·
      have hfit : n * i.size + us'.length ≤ cur.size := by rw [hlen', hcs, hs, ← Nat.add_mul]; exact Nat.mul_le_mul_right _ hroom
      have hul : us'.length = ys.length := by rw [hlen', hs, hsz1, Nat.mul_one]
      have hrun := Lib.run_append_room_string (P := P) w tt tu ty' e i hu hut hi (by rw [hs, hsz1]) b n c cur hheap (bs l) (by omega) (by rw [hs, hsz1] at hfit; omega)
      rw [hbl0, ← hus', show n = n * i.size by rw [hs, hsz1, Nat.mul_one], show ys.length = us'.length from hul.symm] at hrun
      rw [show n * i.size = n by rw [hs, hsz1, Nat.mul_one], hul] at hrun
      have hncl : n * i.size = n := by rw [hs, hsz1, Nat.mul_one]
      generalize hnc' : (cur.toList.take n ++ us' ++ cur.toList.drop (n + ys.length)).toArray = ncur at hrun
      rw [show cur.toList.take n ++ us' ++ cur.toList.drop (n + ys.length) = cur.toList.take (n * i.size) ++ us' ++ cur.toList.drop (n * i.size + us'.length) by rw [hncl, hul]] at hnc'
      have hob : own t = some b := by rw [← f3, hv0]; rfl
      have hstb : g.st b = n * sz := f4 b hob
      have hbl := ho.lt t b hob
      have hus0 : us0 = us := by
        have e1 : us0 = cur.toList.take (n * sz) := htake.symm
        apply List.ext_getElem?
        intro j
        by_cases hj : j < n * sz
        · have hjl : j < us.length := by rw [hlen, hs]; exact hj
          have hc := holds' j us[j] (List.getElem?_eq_getElem hjl)
          rw [add_off] at hc
          simp only [World.cell?, hheap, Nat.zero_add, Option.isSome_none, Bool.false_eq_true, if_false] at hc
          rw [e1, List.getElem?_take, if_pos hj, List.getElem?_eq_getElem hjl, ← hc]
          simp
        · rw [List.getElem?_eq_none (by rw [f2.1]; omega), List.getElem?_eq_none (by rw [hlen, hs]; omega)]
      subst hus0
      have hheap' : (w.setRow b ncur).heap[b]? = some (.cells ncur e (0, 0)) := setRow_heap w b cur ncur e _ hheap
      have hother : ∀ k, k ≠ b → (w.setRow b ncur).heap[k]? = w.heap[k]? := fun k hk => setRow_other w b k ncur hk
      have hncur : ncur.toList = us0 ++ us' ++ cur.toList.drop ((n + ys.length) * sz) := by
        rw [← hnc', hs, htake, hlen', hs, ← Nat.add_mul]
      have hlall : (us0 ++ us').length = (n + ys.length) * sz := by rw [List.length_append, hlen, hlen', hs, Nat.add_mul]
      have hcell : ∀ j, j < (n + ys.length) * sz → (w.setRow b ncur).cell? ⟨b, j, none⟩ = (us0 ++ us')[j]? := fun j hj => by
        simp only [World.cell?, hheap', Option.isSome_none, Bool.false_eq_true, if_false]
        rw [← Array.getElem?_toList, hncur, List.getElem?_append_left (by omega)]
      let g1 : Gh := (g.stab b ((n + ys.length) * sz)).log t (n + ys.length) (.slice (some ⟨b, 0, none⟩) (n + ys.length) c)
      have hlall2 : n * sz ≤ (n + ys.length) * sz := Nat.mul_le_mul_right _ (by omega)
      have hl : Le g w g1 (w.setRow b ncur) := by
        refine ⟨⟨rfl, rfl, fun k j hj => ?_, fun _ _ h => h, fun s k u hu => ?_, by simp⟩, fun k x hx => ?_⟩
        · by_cases ek : k = b
          · subst ek
            refine ⟨?_, ?_⟩
            · show j < if k = k then (n + ys.length) * sz else g.st k
              rw [if_pos rfl]
              omega
            · rw [hstb] at hj
              rw [hcell j (by omega), List.getElem?_append_left (by rw [hlen, hs]; exact hj)]
              have hjl : j < us0.length := by rw [hlen, hs]; exact hj
              have := holds' j us0[j] (List.getElem?_eq_getElem hjl)
              rw [add_off, Nat.zero_add] at this
              rw [this, List.getElem?_eq_getElem hjl]
          · refine ⟨?_, World.cell?_of_block (w := w) (a := ⟨k, j, none⟩) (hother k ek)⟩
            show j < if k = b then (n + ys.length) * sz else g.st k
            rw [if_neg ek]
            exact hj
        · show (if s = t ∧ k = n + ys.length then _ else g.lg s k) = _
          rw [if_neg]
          · exact hu
          · rintro ⟨rfl, rfl⟩
            rw [f5 _ (by omega)] at hu
            cases hu
        · have : k ≠ b := fun e => by subst e; rw [hheap] at hx; cases hx
          exact (hother k this).trans hx
      refine ⟨_, _, by rw [hv0]; exact hrun, _, _, g1, hK, ?_, ?_, hl⟩
      · refine Rel.row_set hr hσ ho hl (hr.below.trans ⟨rfl, rfl, rfl, by simp, fun k hk => hother k (by omega)⟩) (fun k hk => ?_) rfl (fun id k hid => ?_) (fun id k hid hk => ?_) (ob := some b) ?_ (fun id k hid hk e => ?_) (fun k hk => ?_)
        · simp only [setRow_size] at hk
          show (if k = b then _ else g.st k) = 0
          rw [if_neg (by omega)]
          exact hr.fresh k hk
        · show (if id = t ∧ k = n + ys.length then _ else g.lg id k) = _
          rw [if_neg (fun h => hid h.1)]
        · have hkb : k ≠ b := fun e => by subst e; exact hid (ho.inj _ _ _ hk hob)
          refine ⟨hother k hkb, ?_⟩
          show (if k = b then _ else g.st k) = _
          rw [if_neg hkb]
        · refine ⟨.slice (some ⟨b, 0, none⟩) (n + ys.length) c, us0 ++ us', ?_, ⟨hlall, .inr ⟨b, c, ncur, rfl, hbB, hheap', hroom, hcm, ?_, ?_⟩⟩, rfl, fun k hk => ?_, fun k hk => ?_⟩
          · show (if t = t ∧ n + ys.length = n + ys.length then _ else _) = _
            rw [if_pos ⟨rfl, rfl⟩]
          · have hcl : cur.toList.length = c * sz := by rw [Array.length_toList, hcs]
            have : (n + ys.length) * sz ≤ c * sz := Nat.mul_le_mul_right _ hroom
            rw [← Array.length_toList, hncur, List.length_append, hlall, List.length_drop, hcl]
            omega
          · rw [hncur, ← hlall, List.append_assoc, ← List.append_assoc us0 us']
            exact List.take_left
          · injection hk with hk
            subst hk
            show (if b = b then _ else _) = _
            rw [if_pos rfl]
          · show (if t = t ∧ k = n + ys.length then _ else g.lg t k) = none
            rw [if_neg (by omega)]
            exact f5 k (by omega)
        · injection e with e
          subst e
          exact hid (ho.inj _ _ _ hk hob)
        · injection hk with hk
          subst hk
          exact ⟨hbl.2.1, by simpa using hbl.2.2⟩
      · refine .lst' hlenx hroom hcm hall3 (us := us0 ++ us') ?_ (fun j u hj => ⟨⟨b, 0, none⟩, rfl, ?_⟩) (fun s hs => ?_)
        · rw [hfl]
          exact (h4.mono hl).append (k4.mono hl)
        · have hjl : j < (us0 ++ us').length := (List.getElem?_eq_some_iff.1 hj).1
          refine ⟨?_, ?_, hallone u (List.mem_of_getElem? hj)⟩
          · rw [add_off]
            show 0 + j < if b = b then (n + ys.length) * sz else g.st b
            rw [if_pos rfl]
            omega
          · rw [add_off, Nat.zero_add, hcell j (by omega)]
            exact hj
        · injection hs with hs
          subst hs
          show (if t = t ∧ n + ys.length = n + ys.length then _ else _) = _
          rw [if_pos ⟨rfl, rfl⟩]
    ·
      have hrun := Lib.run_append_grow_string (P := P) w tt tu ty' e i z hu hut hi hz ⟨b, 0, none⟩ n c us hlen holds' (bs l) (by omega) (by omega) (growslice_fits (by omega) (by rw [hb, hbl0]; exact hbound))
      rw [hbl0, ← hus'] at hrun
      refine ⟨_, _, by rw [hv0]; exact hrun, fresh_case _ _ (grownCap_ge w _ _ _) (grownCap_le_maxLen w _ _ _ hsmall) (by rw [size_zeroCells, hzs])⟩
theorem op_appendS {t u e bytes id n : Nat} {x y : Operand} {xs : List MV} {l : Bs} (ho : o.op = .call { callee := .builtin .append, args := #[x, y], argTypes := #[t, u] }) (hu : P.underlying t = some (.slice e)) (hut : P.underlying u = some .string) (he : elemOk P e 1 bytes = true)
    (hx : evo env x = some (.lst (some id) 1 xs)) (hy : evo env y = some (.str (bs l))) (hσ : σ[id]? = some (.row e 1 n)) (hn : xs.length = n) (hb : (n + l.length) * bytes ≤ 140737488355328) (hml : n + l.length ≤ 4611686018427387904)
    (hK : K (.lst (some id) 1 (xs ++ l.map encY)) (σ.set id (.row e 1 (n + l.length)))) : OpWp P rd o env σ K := by
  refine OpWp.of_run (by simp [ho]) fun g w a hr hop => ?_
  have hv := (hop y (by simp [ho, Op.operands, Call.operands]) _ hy).inv_str
  obtain ⟨v', w', hrun, hg⟩ := gets_appendS (ty' := o.type) hr rfl hu hut he hσ (ys := l.map encY) rfl (hop x (by simp [ho, Op.operands, Call.operands]) _ hx) hn (by simpa using hb) (by simpa using hml) (by simpa using hK)
  refine ⟨v', w', ?_, hg⟩
  simp [execOp, ho, resolve, invoke, builtin, hv, hrun]
end
end Go.MV
end
section
set_option linter.unusedVariables false
set_option linter.unusedSimpArgs false
namespace Go.MV
open Go Go.RowKit
section
variable {P : Program} {rd : Option Nat} {o : Oper} {env : Env} {σ : MS} {K : MV → MS → Prop}
theorem Rel.pin {g : Gh} {w : World} (hr : Rel g σ w) {t e n b c : Nat} {l : Bs} (hl : l ≠ []) (hσ : σ[t]? = some (.row e 1 n)) (hn : l.length = n) (hlg : g.lg t n = some (.slice (some ⟨b, 0, none⟩) n c)) (hcell : ∀ j x, l[j]? = some x → w.cell? ⟨b, j, none⟩ = some (.int .u8 (x.toNat : Int))) :
    Rel (g.bind σ.length b) (σ.set t .gone ++ [.pin e l]) w ∧ Le g w (g.bind σ.length b) w := by
  have hle : Le g w (g.bind σ.length b) w := by
    refine ⟨⟨rfl, rfl, fun _ _ h => ⟨h, rfl⟩, fun i b' h => ?_, fun _ _ _ h => h, Nat.le_refl _⟩, fun _ _ h => h⟩
    simp only [Gh.bind]
    rw [if_neg]
    · exact h
    · rintro rfl
      rw [hr.bkn _ (Nat.le_refl _)] at h
      cases h
  obtain ⟨own, ho⟩ := hr.ex
  have htl : t < σ.length := (List.getElem?_eq_some_iff.1 hσ).1
  obtain ⟨v0, us0, f1, f2, f3, f4, f5⟩ := ho.obj t _ hσ
  rw [hlg] at f1
  injection f1 with f1
  subst f1
  have hob : own t = some b := f3.symm
  rcases f2.2 with ⟨hv0, _⟩ | ⟨b', cap, cur, hv0, hbB, hheap, hnc, hcm, hcs, htake⟩
  · cases hv0
  injection hv0 with e1 e2 e3
  injection e1 with e1
  injection e1 with e1
  subst e1
  refine ⟨⟨hr.below, hr.base, hr.fresh, fun i hi => ?_, fun s k hs => hr.lgn s k (by simp at hs; omega), fun i => if i = t then none else if i = σ.length then some b else own i, ⟨fun i ob hi => ?_, fun i j d hi hj => ?_, fun i d hi => ?_⟩⟩, hle⟩
  · simp at hi
    simp only [Gh.bind]
    rw [if_neg (by omega)]
    exact hr.bkn i (by omega)
  · by_cases hil : i < σ.length
    · rw [List.getElem?_append_left (by simpa using hil)] at hi
      by_cases e : i = t
      · subst e
        rw [List.getElem?_set_self htl] at hi
        injection hi with hi
        subst hi
        simp [ObjRel]
      · rw [if_neg e, if_neg (by omega)]
        rw [List.getElem?_set_ne (fun h => e h.symm)] at hi
        exact (ho.obj i ob hi).keep0 hle.toLe0 (fun _ _ => ⟨rfl, rfl⟩) (fun _ => rfl)
    · have hi2 : i = σ.length := by
        have := (List.getElem?_eq_some_iff.1 hi).1
        simp at this
        omega
      subst hi2
      rw [List.getElem?_append_right (by simp)] at hi
      simp at hi
      subst hi
      rw [if_neg (by omega), if_pos rfl]
      refine ⟨b, cur, rfl, by simp [Gh.bind], ?_, hheap, by rw [hcs, hn]; omega, fun j x hj => ?_⟩
      · show g.st b = l.length
        rw [f4 b hob, hn, Nat.mul_one]
      · have := hcell j x hj
        simpa [World.cell?, hheap] using this
  · by_cases ei : i = t
    · rw [if_pos ei] at hi; cases hi
    · by_cases ej : j = t
      · rw [if_pos ej] at hj; cases hj
      · rw [if_neg ei] at hi
        rw [if_neg ej] at hj
        by_cases fi : i = σ.length
        · by_cases fj : j = σ.length
          · omega
          · rw [if_pos fi] at hi
            rw [if_neg fj] at hj
            injection hi with hi
            subst hi
            exact absurd (ho.inj _ _ _ hj hob) ej
        · by_cases fj : j = σ.length
          · rw [if_neg fi] at hi
            rw [if_pos fj] at hj
            injection hj with hj
            subst hj
            exact absurd (ho.inj _ _ _ hi hob) ei
          · rw [if_neg fi] at hi
            rw [if_neg fj] at hj
            exact ho.inj i j d hi hj
  · by_cases ei : i = t
    · rw [if_pos ei] at hi; cases hi
    · rw [if_neg ei] at hi
      by_cases fi : i = σ.length
      · rw [if_pos fi] at hi
        injection hi with hi
        subst hi
        exact ⟨by simp; omega, (ho.lt t _ hob).2⟩
      · rw [if_neg fi] at hi
        obtain ⟨h1, h2, h3⟩ := ho.lt i d hi
        exact ⟨by simp; omega, h2, h3⟩
theorem op_sliceData {u e id n : Nat} {x : Operand} {l : Bs} (ho : o.op = .call { callee := .builtin .unsafeSliceData, args := #[x], argTypes := #[u] }) (hx : evo env x = some (.lst (some id) 1 (l.map encY))) (hl : l ≠ []) (hσ : σ[id]? = some (.row e 1 n)) (hn : l.length = n)
    (hK : K (.ref σ.length 0) (σ.set id .gone ++ [.pin e l])) : OpWp P rd o env σ K := by
  refine OpWp.of_run (by simp [ho]) fun g w a hr hop => ?_
  obtain ⟨ad, c, us, hv, h1, h2, h3, h4, h5, h6⟩ := (hop x (by simp [ho, Op.operands, Call.operands]) _ hx).inv_lst
  have hpos : 0 < l.length := List.length_pos_iff.2 hl
  have hlg := h6 id rfl
  obtain ⟨own, hown⟩ := hr.ex
  obtain ⟨v0, us0, f1, f2, f3, f4, f5⟩ := hown.obj id _ hσ
  rw [List.length_map, hn] at hlg
  rw [f1] at hlg
  injection hlg with hlg
  rcases f2.2 with ⟨hv0, hn0⟩ | ⟨b, cap, cur, hv0, hbB, hheap, hnc, hcm, hcs, htake⟩
  · omega
  have hv1 : Value.slice ad (l.map encY).length c = .slice (some ⟨b, 0, none⟩) n cap := by rw [← hv, ← hlg, hv0]
  injection hv1 with e1 e2 e3
  subst e1 e3
  have hrds : us = l.map fun c => Value.int .u8 (c.toNat : Int) := by
    rw [flat_encY] at h4
    rw [us_bytes h4, List.map_map]
    rfl
  obtain ⟨hr', hle⟩ := hr.pin hl hσ hn (by rw [f1, hv0]) (fun j x hj => by
    obtain ⟨ad2, q1, q2⟩ := h5 j (.int .u8 (x.toNat : Int)) (by rw [hrds, List.getElem?_map, hj]; rfl)
    injection q1 with q1
    subst q1
    have := q2.2.1
    simpa [add_off] using this)
  refine ⟨.pointer (some ⟨b, 0, none⟩), w, ?_, ⟨_, _, _, hK, hr', .ref _ _ _ (by simp [Gh.bind]), hle⟩⟩
  rw [List.length_map] at hv h1
  have hrun := fun ts ty => Lib.run_unsafeSliceData_row (P := P) w ts ty ⟨b, 0, none⟩ l.length c (by omega)
  simp [execOp, ho, resolve, invoke, builtin, hv, hrun]
theorem freeze_cell {w : World} {b n : Nat} (p : Addr) : (w.freeze ⟨b, 0, none⟩ n).cell? p = w.cell? p := by
  unfold World.freeze
  split
  · rfl
  · unfold World.cell?
    simp only [Array.getElem?_modify]
    by_cases e : b = p.block
    · subst e
      rw [if_pos rfl]
      cases w.heap[p.block]? with
      | none => rfl
      | some ob => cases ob <;> rfl
    · rw [if_neg e]
theorem freeze_other {w : World} {b n k : Nat} (h : k ≠ b) : (w.freeze ⟨b, 0, none⟩ n).heap[k]? = w.heap[k]? := by
  unfold World.freeze
  split
  · rfl
  · simp only [Array.getElem?_modify]
    rw [if_neg (fun e => h e.symm)]
theorem freeze_size {w : World} {b n : Nat} : (w.freeze ⟨b, 0, none⟩ n).heap.size = w.heap.size := by
  unfold World.freeze
  split
  · rfl
  · simp
theorem op_unsafeString {t t' e id : Nat} {x y : Operand} {l : Bs} {m : Int} (ho : o.op = .call { callee := .builtin .unsafeString, args := #[x, y], argTypes := #[t, t'] }) (hu : P.underlying t = some (.pointer e)) (hc : P.cellsOf e = 1) (hx : evo env x = some (.ref id 0)) (hy : evo env y = some (.int .i64 m)) (hm : m = (l.length : Int)) (hl : l ≠ []) (hlen : l.length ≤ maxLen) (hσ : σ[id]? = some (.pin e l))
    (hK : K (.str (bs l)) (σ.set id .gone)) : OpWp P rd o env σ K := by
  subst hm
  refine OpWp.of_run (by simp [ho]) fun g w a hr hop => ?_
  obtain ⟨b', hb', hv⟩ := (hop x (by simp [ho, Op.operands, Call.operands]) _ hx).inv_ref
  have hv2 := (hop y (by simp [ho, Op.operands, Call.operands]) _ hy).inv_int
  obtain ⟨own, hown⟩ := hr.ex
  obtain ⟨b, cur, e1, e2, e3, e4, e5, e6⟩ := hown.obj _ _ hσ
  rw [hb'] at e2
  injection e2 with e2
  subst e2
  have hrun := fun ty => Lib.run_unsafeString_row (P := P) w t t' ty e hu hc b' cur.size (by simp [World.shape?, e4]) l hl e5 (by simp only [maxLen] at hlen; omega) (fun j x hj => by
    rw [add_off, Nat.zero_add]
    simp [World.cell?, e4, e6 j x hj])
  have hle : Le g w g (w.freeze ⟨b', 0, none⟩ l.length) := by
    refine ⟨⟨rfl, rfl, fun c i hi => ⟨hi, freeze_cell _⟩, fun _ _ h => h, fun _ _ _ h => h, by rw [freeze_size]; exact Nat.le_refl _⟩, fun c q hq => ?_⟩
    rw [freeze_other]
    · exact hq
    · rintro rfl
      rw [e4] at hq
      cases hq
  refine ⟨.string (bs l), _, ?_, ⟨_, _, g, hK, ?_, .str _, hle⟩⟩
  · simp [execOp, ho, resolve, invoke, builtin, hv, hv2, hrun]
    rfl
  · have hB := (hown.lt id b' e1).2.1
    refine ⟨?_, hr.base, fun c hc => hr.fresh c (by rw [freeze_size] at hc; exact hc), fun i hi => hr.bkn i (by simpa using hi), fun s q hs => hr.lgn s q (by simpa using hs), fun i => if i = id then none else own i, ⟨fun i ob hi => ?_, fun i j c hi hj => ?_, fun i c hi => ?_⟩⟩
    · exact Lib.below_freeze hr.below (p := ⟨b', 0, none⟩) hB _
    · by_cases ei : i = id
      · subst ei
        rw [List.getElem?_set, if_pos rfl] at hi
        split at hi
        · injection hi with hi
          subst hi
          simp [ObjRel]
        · cases hi
      · rw [if_neg ei]
        rw [List.getElem?_set_ne (fun h => ei h.symm)] at hi
        refine (hown.obj i ob hi).keep0 hle.toLe0 (fun c hc => ⟨freeze_other ?_, rfl⟩) (fun _ => rfl)
        rintro rfl
        exact ei (hown.inj _ _ _ hc e1)
    · split at hi
      · cases hi
      · split at hj
        · cases hj
        · exact hown.inj i j c hi hj
    · split at hi
      · cases hi
      · obtain ⟨h1, h2, h3⟩ := hown.lt i c hi
        exact ⟨by simpa using h1, h2, by rw [freeze_size]; exact h3⟩
end
end Go.MV
end
section
set_option linter.unusedVariables false
set_option linter.unusedSimpArgs false
namespace Go.MV
open Go Go.RowKit
theorem Rel.retype {g : Gh} {σ : MS} {w : World} (h : Rel g σ w) {id b : Nat} {l : List MV} {us : List Value} {ty : TypeId} (hσ : σ[id]? = some (.cells l)) (hb : g.bk id = some b) (hh : w.heap[b]? = some (.cells us.toArray ty (0, 0))) : Rel g (σ.set id (.tcells ty l)) w := by
  obtain ⟨own, hown⟩ := h.ex
  obtain ⟨b', us', ty', e1, e2, e3, ⟨fr, e4, _⟩, e5⟩ := hown.obj _ _ hσ
  rw [hb] at e2; injection e2 with e2; subst e2
  rw [hh] at e4; injection e4 with e4; injection e4 with e4 e6 e7
  have e4' : us = us' := by simpa using congrArg Array.toList e4
  subst e4'
  refine ⟨h.below, h.base, h.fresh, fun i hi => h.bkn i (by simpa using hi), fun t k ht => h.lgn t k (by simpa using ht), own, ⟨fun i ob hi => ?_, hown.inj, fun i c hc => by simpa using hown.lt i c hc⟩⟩
  rw [List.getElem?_set] at hi
  by_cases e : id = i
  · subst e
    rw [if_pos rfl] at hi
    split at hi
    · injection hi with hi
      subst hi
      exact ⟨b, us, e1, hb, e3, hh, e5⟩
    · cases hi
  · rw [if_neg e] at hi
    exact hown.obj i ob hi
theorem Rel.untype {g : Gh} {σ : MS} {w : World} (h : Rel g σ w) {id : Nat} {l : List MV} {ty : TypeId} (hσ : σ[id]? = some (.tcells ty l)) : Rel g (σ.set id (.cells l)) w := by
  obtain ⟨own, hown⟩ := h.ex
  obtain ⟨b, us, e1, e2, e3, e4, e5⟩ := hown.obj _ _ hσ
  refine ⟨h.below, h.base, h.fresh, fun i hi => h.bkn i (by simpa using hi), fun t k ht => h.lgn t k (by simpa using ht), own, ⟨fun i ob hi => ?_, hown.inj, fun i c hc => by simpa using hown.lt i c hc⟩⟩
  rw [List.getElem?_set] at hi
  by_cases e : id = i
  · subst e
    rw [if_pos rfl] at hi
    split at hi
    · injection hi with hi
      subst hi
      exact ⟨b, us, ty, e1, e2, e3, ⟨_, e4, .inl rfl⟩, e5⟩
    · cases hi
  · rw [if_neg e] at hi
    exact hown.obj i ob hi
section
variable {P : Program} {rd : Option Nat} {o : Oper} {env : Env} {σ : MS} {K : MV → MS → Prop}
theorem op_boxT {t : TypeId} {x : Operand} {m : MV} (ho : o.op = .box t x) (hx : evo env x = some m) (h : K (.ref σ.length 0) (σ ++ [.tcells t m.cells])) : OpWp P rd o env σ K := by
  refine OpWp.of_run (by simp [ho]) fun g w a hr hop => ?_
  obtain ⟨us, e, k1⟩ := rds_cells (hop x (by simp [ho, Op.operands]) _ hx)
  obtain ⟨g', h1, h2, h3⟩ := hr.alloc_obj k1 t
  have hr' := h1.retype (id := σ.length) (l := m.cells) (us := us) (ty := t) (by simp) h3 (heap_new w _)
  have hset : (σ ++ [MObj.cells m.cells]).set σ.length (.tcells t m.cells) = σ ++ [.tcells t m.cells] := by simp
  rw [hset] at hr'
  refine ⟨.pointer (some ⟨w.heap.size, 0, none⟩), w.alloc (.cells us.toArray t), ?_, ⟨_, _, g', h, hr', .ref _ _ _ h3, h2⟩⟩
  simp [execOp, ho, Instr.box, newVar, newRow, e]
theorem op_load_T {t ty : TypeId} {x : Operand} {id off : Nat} {l : List MV} {ta : Option Nat} {m : MV} (ho : o.op = .load t x) (hx : evo env x = some (.ref id off)) (hσ : σ[id]? = some (.tcells ty l)) (ht : tyAgg P t = some ta) (hm : loadMV ta l off = some m) (h : K m σ) : OpWp P rd o env σ K := by
  refine OpWp.of_run (by simp [ho]) fun g w a hr hop => ?_
  obtain ⟨b, hb, e⟩ := (hop x (by simp [ho, Op.operands]) _ hx).inv_ref
  obtain ⟨own, hown⟩ := hr.ex
  obtain ⟨b', us, e1, e2, e3, e4, e5⟩ := hown.obj _ _ hσ
  rw [hb] at e2
  injection e2 with e2
  subst e2
  obtain ⟨v, hv, hy⟩ := run_loadVar_at ht (e5.drop off) (fun j u hu => cells_at e4 off j hu) (loadMV_drop hm)
  refine ⟨v, w, ?_, .same h hr hy⟩
  simp [execOp, ho, e, Instr.loadAt, Instr.sureAddr, hv]
theorem op_store_T {t ty : TypeId} {x y : Operand} {id off : Nat} {l : List MV} {m : MV} {k : Nat} (ho : o.op = .store t x y) (hx : evo env x = some (.ref id off)) (hy : evo env y = some m) (hσ : σ[id]? = some (.tcells ty l)) (hk : szOf P t = some k) (hm : m.cells.length = k)
    (h1 : m.cells.all MV.one = true) (hle : off + k ≤ l.length) (h : K (.tup []) (σ.set id (.tcells ty (setMany l off m.cells)))) : OpWp P rd o env σ K := by
  refine OpWp.of_skip (by simp [ho]) fun g w a hr0 hop => ?_
  have hidl : id < σ.length := (List.getElem?_eq_some_iff.1 hσ).1
  have hr := hr0.untype hσ
  have hσ' : (σ.set id (.cells l))[id]? = some (.cells l) := by rw [List.getElem?_set_self hidl]
  obtain ⟨b, hb, e⟩ := (hop x (by simp [ho, Op.operands]) _ hx).inv_ref
  have hrd := hop y (by simp [ho, Op.operands]) _ hy
  obtain ⟨us, hus, hrds⟩ := rds_cells hrd
  obtain ⟨own, hown⟩ := hr0.ex
  obtain ⟨b', old, e1, e2, e3, e4, e5⟩ := hown.obj _ _ hσ
  rw [hb] at e2; injection e2 with e2; subst e2
  have hlen : us.length = k := by rw [hrds.1, hm]
  have hone : ∀ v ∈ us, v.oneCell' = true := by
    intro v hv
    obtain ⟨j, hj⟩ := List.getElem?_of_mem hv
    have hjl : j < m.cells.length := by rw [hm, ← hlen]; exact (List.getElem?_eq_some_iff.1 hj).1
    have := hrds.2 j _ v (List.getElem?_eq_getElem hjl) hj
    rw [List.all_eq_true] at h1
    exact one_cell this (h1 _ (List.getElem_mem hjl))
  have hrun := run_storeCells_fr P b off ty (0, 0) us 0 old.toArray w e4 (.inl rfl) (by rw [hlen]; simpa [e5.1] using hle) hone
  obtain ⟨hrel, hl⟩ := hr.store hσ' hrds (by rw [hm]; exact hle) hb e4
  have hrel' := hrel.retype (id := id) (by rw [List.getElem?_set_self (by simpa using hidl)]) hb (setRow_heap w b _ _ ty _ e4)
  have hset : ((σ.set id (MObj.cells l)).set id (.cells (setMany l off m.cells))).set id (.tcells ty (setMany l off m.cells)) = σ.set id (.tcells ty (setMany l off m.cells)) := by
    rw [List.set_set, List.set_set]
  rw [hset] at hrel'
  refine ⟨_, ?_, .tup [], _, g, h, hrel', rd_undef _ _, hl⟩
  have hsz : (a.eval y).cells.size = k := by rw [hus]; simpa using hlen
  have hst : (storeVar t ⟨b, off, none⟩ (a.eval y)).run P w = (storeCells ⟨b, off, none⟩ us).run P w := by
    simp [storeVar, szOf_run hk, hsz, hus, hlen]
  simp only [execOp, ho, e, Instr.storeAt, Instr.sureAddr, Sem.run_bind, Sem.run_pure, Result.andThen_ok, hst, hrun, Nat.add_zero]
theorem op_toUnsafe {t t' e ty : TypeId} {x : Operand} {id k : Nat} {l : List MV} (ho : o.op = .convert t t' x) (hs : P.underlying t = some (.pointer e)) (hd : P.underlying t' = some .unsafePointer) (hk : szOf P e = some k) (hk0 : k ≠ 0) (hx : evo env x = some (.ref id 0)) (hσ : σ[id]? = some (.tcells ty l)) (hl : 0 < l.length) (h : K (.ref id 0) σ) : OpWp P rd o env σ K := by
  refine OpWp.of_run (by simp [ho]) fun g w a hr hop => ?_
  have hrd := hop x (by simp [ho, Op.operands]) _ hx
  obtain ⟨b, hb, e0⟩ := hrd.inv_ref
  obtain ⟨own, hown⟩ := hr.ex
  obtain ⟨b', us, e1, e2, e3, e4, e5⟩ := hown.obj _ _ hσ
  rw [hb] at e2; injection e2 with e2; subst e2
  obtain ⟨i, hi, hz⟩ : ∃ i, P.info? e = some i ∧ i.size = k := by
    unfold szOf at hk
    split at hk
    · rename_i i hi
      injection hk with hk
      exact ⟨i, hi, hk⟩
    · cases hk
  refine ⟨.pointer (some ⟨b, 0, none⟩), w, ?_, .same h hr (.ref _ _ _ hb)⟩
  have hrun := Lib.run_to_unsafe (P := P) w ⟨b, 0, none⟩ hs hd hi (by rw [hz]; exact hk0) (e := ty) (cells := us.length) (by simp [World.shape?, e4]) (by rw [e5.1]; exact hl)
  simp [execOp, ho, e0, hrun]
theorem op_fromUnsafe {t t' e ty : TypeId} {x : Operand} {id k : Nat} {l : List MV} (ho : o.op = .convert t t' x) (hs : P.underlying t = some .unsafePointer) (hd : P.underlying t' = some (.pointer e)) (hk : szOf P e = some k) (hx : evo env x = some (.ref id 0)) (hσ : σ[id]? = some (.tcells ty l)) (hlies : liesAt P P.depth ty (l.length / P.cellsOf ty) 0 e 1 = true) (h : K (.ref id 0) σ) : OpWp P rd o env σ K := by
  refine OpWp.of_run (by simp [ho]) fun g w a hr hop => ?_
  obtain ⟨b, hb, e0⟩ := (hop x (by simp [ho, Op.operands]) _ hx).inv_ref
  obtain ⟨own, hown⟩ := hr.ex
  obtain ⟨b', us, e1, e2, e3, e4, e5⟩ := hown.obj _ _ hσ
  rw [hb] at e2; injection e2 with e2; subst e2
  obtain ⟨i, hi, hz⟩ : ∃ i, P.info? e = some i ∧ i.size = k := by
    unfold szOf at hk
    split at hk
    · rename_i i hi
      injection hk with hk
      exact ⟨i, hi, hk⟩
    · cases hk
  refine ⟨.pointer (some ⟨b, 0, none⟩), w, ?_, .same h hr (.ref _ _ _ hb)⟩
  have hrun := Lib.run_from_unsafe (P := P) w ⟨b, 0, none⟩ hs hd hi (e := ty) (cells := us.length) (by simp [World.shape?, e4]) (by rw [e5.1]; exact hlies)
  simp [execOp, ho, e0, hrun]
theorem op_ptrsame {b : BinOp} {r : Bool} {t e t' : TypeId} {x y : Operand} {id off k : Nat} (ho : o.op = .binOp b t x y t') (hu : P.underlying t = some (.pointer e)) (hk : szOf P e = some k) (hk0 : k ≠ 0) (hx : evo env x = some (.ref id off)) (hy : evo env y = some (.ref id off)) (hb : b = .eql ∧ r = true ∨ b = .neq ∧ r = false) (h : K (.bool r) σ) : OpWp P rd o env σ K := by
  refine OpWp.of_run (by rcases hb with ⟨rfl, rfl⟩ | ⟨rfl, rfl⟩ <;> simp [ho]) fun g w a hr hop => ?_
  obtain ⟨b1, hb1, e1⟩ := (hop x (by simp [ho, Op.operands]) _ hx).inv_ref
  obtain ⟨b2, hb2, e2⟩ := (hop y (by simp [ho, Op.operands]) _ hy).inv_ref
  rw [hb1] at hb2; injection hb2 with hb2; subst hb2
  refine ⟨.bool r, w, ?_, .same h hr (.bool _)⟩
  have h9 : ∀ d : Nat, (Op.equalIn (d + 1) t (.pointer (some ⟨b1, off, none⟩)) (.pointer (some ⟨b1, off, none⟩))).run P w = .ok true w := fun d => by
    simp [Op.equalIn, run_underlying hu, szOf_run hk, hk0, sameAddr]
  rcases hb with ⟨rfl, rfl⟩ | ⟨rfl, rfl⟩ <;> (simp only [execOp, ho, e1, e2, Sem.run_bind, Sem.run_pure]; simp [eqGuard, binOp, Op.equal, Op.maxDepth, h9 9999])
end
theorem Rel.recellT {g : Gh} {σ : MS} {w : World} (h : Rel g σ w) {id : Nat} {ty : TypeId} {l l' : List MV} (hσ : σ[id]? = some (.tcells ty l)) (hl : ∀ us, Rds g w l us → Rds g w l' us) : Rel g (σ.set id (.tcells ty l')) w := by
  refine ⟨h.below, h.base, h.fresh, fun i hi => h.bkn i (by simpa using hi), fun t n ht => h.lgn t n (by simpa using ht), ?_⟩
  obtain ⟨own, ho⟩ := h.ex
  refine ⟨own, ⟨fun i o hi => ?_, ho.inj, fun i b hi => by have := ho.lt i b hi; exact ⟨by simpa using this.1, this.2⟩⟩⟩
  rw [List.getElem?_set] at hi
  split at hi
  · rename_i e
    subst e
    split at hi
    · injection hi with hi
      subst hi
      obtain ⟨b, us, h1, h2, h3, h4, h5⟩ := ho.obj _ _ hσ
      exact ⟨b, us, h1, h2, h3, h4, hl us h5⟩
    · cases hi
  · exact ho.obj i o hi
theorem mwp_cellrowT {P : Program} {rd : Option Nat} {N n : Nat} {c : Code} {Q : Exit → Env → MS → Prop} {env : Env} {S L L' : MS} (k i ty sz : Nat) {m tt : Nat} {l : List MV} (hk : L[k]? = some (.tcells tt l)) (hi : l[i]? = some .lst0) (hN : N ≤ S.length) (hm : L.length = m) (hL : L.set k (.tcells tt (l.set i (.lst (some (S.length + m)) sz []))) ++ [.row ty sz 0] = L') (h : mwp P rd N n c Q env (S ++ L')) : mwp P rd N n c Q env (S ++ L) := by
  subst hm hL
  refine mwp_ghost (fun g w tmps hr he => ?_) h
  obtain ⟨r1, l1, d1⟩ := tok_new hr ty sz
  have hlen : (S ++ L).length = S.length + L.length := List.length_append
  refine ⟨_, ?_, he.mono l1, l1.toN N, fun F hF => hF.mono (l1.toN N)⟩
  have hlt := (List.getElem?_eq_some_iff.1 hk).1
  have e : S ++ (L.set k (.tcells tt (l.set i (.lst (some (S.length + L.length)) sz []))) ++ [.row ty sz 0]) = ((S ++ L) ++ [MObj.row ty sz 0]).set (S.length + k) (.tcells tt (l.set i (.lst (some (S.length + L.length)) sz []))) := by
    rw [List.append_assoc, set_own, List.set_append_left _ _ hlt]
  rw [e]
  refine r1.recellT (l := l) (by rw [List.append_assoc, getElem?_own, List.getElem?_append_left hlt]; exact hk) fun us hus => ?_
  obtain ⟨u, hu, hrd⟩ := hus.get hi
  have hs := hus.set i (x := .lst (some (S.length + L.length)) sz []) (u := u) (by rw [hrd.inv_lst0, ← hlen]; exact d1)
  obtain ⟨hul, hue⟩ := List.getElem?_eq_some_iff.1 hu
  rwa [show us.set i u = us by rw [← hue]; exact List.set_getElem_self hul] at hs
end Go.MV
end
section
set_option linter.unusedVariables false
set_option linter.unusedSimpArgs false
namespace Go.MV
open Go Go.RowKit
section
variable {P : Program} {rd : Option Nat} {o : Oper} {env : Env} {σ : MS} {K : MV → MS → Prop}
end
end Go.MV
end
section
set_option linter.unusedVariables false
set_option linter.unusedSimpArgs false
set_option maxRecDepth 20000
set_option maxHeartbeats 400000
namespace Go.Proofs.YthkikhggmbiffaaGreat
open Go Go.MV Go.RowKit
theorem run_same {P : Program} {k : FuncId} {fn : Func} (hf : P.funcs[k]? = some fn) (hname : (fn.name == "runtime.NumGoroutine") = false) (hb : fn.body.isNone = true) (hn : Extern.findNext fn = none) (he : Extern.find fn = some Extern.AbiNoEscape.same) (v : Value) (w : World) :
  (callFunc k #[v]).run P w = .ok (.value v) w := by
 rw [run_callFunc_extern hf hname hb hn he, Go.Lib.run_noEscape]
 rfl
theorem op_same {P : Program} {rd : Option Nat} {o : Oper} {env : Env} {σ : MS} {K : MV → MS → Prop} {f x : Operand} {k : FuncId} {fn : Func} {m : MV} {ts : Array TypeId} (ho : o.op = .call { callee := .value f, args := #[x], argTypes := ts }) (hf : evo env f = some (.fn (.func k) [] [])) (hfn : P.funcs[k]? = some fn) (hname : (fn.name == "runtime.NumGoroutine") = false) (hb : fn.body.isNone = true) (hn : Extern.findNext fn = none) (he : Extern.find fn = some Extern.AbiNoEscape.same) (hx : evo env x = some m) (h : K m σ) : OpWp P rd o env σ K := by
 refine OpWp.of_run (by simp [ho]) fun g w a hr hop => ?_
 obtain ⟨us, vs, e, k1, k2⟩ := (hop f (by simp [ho, Op.operands, Call.operands]) _ hf).inv_fn
 have hrd := hop x (by simp [ho, Op.operands, Call.operands]) _ hx
 have e1 : us = [] := List.eq_nil_of_length_eq_zero k1.1
 have e2 : vs = [] := List.eq_nil_of_length_eq_zero k2.1
 subst e1 e2
 have hrun := run_same (P := P) hfn hname hb hn he (a.eval x) w
 refine ⟨a.eval x, w, ?_, .same h hr hrd⟩
 simp [execOp, ho, resolve, e, Deferred.ofValue, invoke, hrun]
theorem get_slO {S L : MS} {id : Nat} {o : MObj} (h : S[id]? = some o) : (S ++ L)[id]? = some o := get_sl h
theorem set_slO {S L : MS} {id : Nat} {o p : MObj} (h : S[id]? = some p) : (S ++ L).set id o = S.set id o ++ L := List.set_append_left _ _ (List.getElem?_eq_some_iff.1 h).1
theorem cls_tc {S : MS} {id : Nat} {ty : TypeId} {l : List MV} (h : ClS S) (hl : ∀ x ∈ l, Cl S.length x) : ClS (S.set id (.tcells ty l)) := by
 intro i o ho
 rw [List.length_set]
 rcases List.mem_or_eq_of_mem_set (List.mem_of_getElem? ho) with hm | rfl
 ·obtain ⟨j, hj⟩ := List.getElem?_of_mem hm
  exact h j o hj
 ·exact hl
theorem check_new (id : Nat) (q : MV) (S : MS) (h : S[id]? = some (.tcells 59 [.ptr0, q])) : MCalls Tryz.prog 68 [.ref id 0] S fun v σ' => v = .tup [] ∧ σ' = S.set id (.tcells 59 [.ref id 0, q]) := by
 refine mcalls_body Tryz.func68 rfl Tryz.ntmps68 (Nat.le_of_ble_eq_true rfl) ?_
 refine mwp_facts fun _ hcl => ?_
 rw [List.append_nil] at hcl
 have hidl := (List.getElem?_eq_some_iff.1 h).1
 refine mwp_seq <| qR rfl <| qM rfl rfl rfl <| qO rfl <| op_nilCheck rfl rfl rfl <| qF rfl rfl rfl fo57_0 <| qO rfl <| op_load_T rfl rfl (get_slO h) ta55 rfl <| qO rfl <| op_ptr0 rfl Tryz.underlying55 rfl rfl (.inl ⟨rfl, rfl⟩) <| qN <| mwp_cond_t rfl (rfl) <| qR rfl <| qM rfl rfl rfl <| qM rfl rfl rfl <| qO rfl <| op_toUnsafe rfl Tryz.underlying55 Tryz.underlying117 (k := 2) (by kernel_rfl) (by decide) rfl (get_slO h) (by simp) ?_
 refine qO rfl <| op_same rfl rfl Tryz.func84 (by kernel_rfl) (by kernel_rfl) (by kernel_rfl) (by kernel_rfl) rfl ?_
 refine qO rfl <| op_fromUnsafe rfl Tryz.underlying117 Tryz.underlying55 (k := 2) (by kernel_rfl) rfl (get_slO h) (by kernel_rfl) ?_
 refine qO rfl <| op_nilCheck rfl rfl rfl <| qF rfl rfl rfl fo57_0 <| qO rfl <| op_store_T rfl rfl rfl (get_slO h) sz55 rfl rfl (Nat.le_of_ble_eq_true rfl) ?_
 rw [set_slO h]
 refine qN ?_
 exact ret_noneS (by simp) Tryz.results68 (by simp) (cls_tc hcl (fun x hx => by
   have hob := hcl id _ h
   rcases List.mem_cons.1 hx with rfl | hx
   ·exact .ref _ _ hidl
   ·exact hob x (.tail _ hx))) ⟨rfl, rfl⟩
theorem check_used (id : Nat) (q : MV) (S : MS) (h : S[id]? = some (.tcells 59 [.ref id 0, q])) : MCalls Tryz.prog 68 [.ref id 0] S fun v σ' => v = .tup [] ∧ σ' = S := by
 refine mcalls_body Tryz.func68 rfl Tryz.ntmps68 (Nat.le_of_ble_eq_true rfl) ?_
 refine mwp_facts fun _ hcl => ?_
 rw [List.append_nil] at hcl
 refine mwp_seq <| qR rfl <| qM rfl rfl rfl <| qO rfl <| op_nilCheck rfl rfl rfl <| qF rfl rfl rfl fo57_0 <| qO rfl <| op_load_T rfl rfl (get_slO h) ta55 rfl <| qO rfl <| op_ptrnil rfl Tryz.underlying55 rfl rfl rfl (.inl ⟨rfl, rfl⟩) <| qN <| mwp_cond_f rfl (rfl) <| mwp_seq <| qR rfl <| qM rfl rfl rfl <| qO rfl <| op_nilCheck rfl rfl rfl <| qF rfl rfl rfl fo57_0 <| qO rfl <| op_load_T rfl rfl (get_slO h) ta55 rfl <| qM rfl rfl rfl <| qO rfl <| op_ptrsame rfl Tryz.underlying55 (k := 2) (by kernel_rfl) (by decide) rfl rfl (.inr ⟨rfl, rfl⟩) ?_
 refine qN <| mwp_cond_f rfl (rfl) <| mwp_skip ?_
 exact ret_noneS (by simp) Tryz.results68 (by simp) hcl ⟨rfl, rfl⟩
end Go.Proofs.YthkikhggmbiffaaGreat
end
section
set_option linter.unusedVariables false
set_option linter.unusedSimpArgs false
set_option maxRecDepth 20000
set_option maxHeartbeats 400000
namespace Go.Proofs.YthkikhggmbiffaaGreat
open Go Go.MV Go.RowKit
theorem set_self_o {S : MS} {id : Nat} {o : MObj} (h : S[id]? = some o) : S.set id o = S := by
 obtain ⟨hl, e⟩ := List.getElem?_eq_some_iff.1 h
 rw [← e, List.set_getElem_self]
theorem get_neO {S : MS} {i k : Nat} {o p : MObj} (hne : i ≠ k) (h : S[k]? = some p) : (S.set i o)[k]? = some p := by rw [List.getElem?_set_ne hne]; exact h
theorem ret_tmp2S {P : Program} {fn : Func} {S S' L : MS} {R : MV → MS → Prop} {env : Env} {e : Exit} {t t' : Nat} {x y x' y' : MV} (he : e = .normal ∨ e = .ret) (hres : fn.results = #[.tmp t, .tmp t']) (hx : get env t = some x) (hx' : get env t' = some x') (hs : Sub x y) (hs' : Sub x' y') (hc : Cl S'.length y) (hc' : Cl S'.length y') (hl : S.length ≤ S'.length) (hS : ClS S') (hR : R (.tup [y, y']) S') : BodyQ P fn S R e env (S' ++ L) := by
 refine ⟨he, [x, x'], .tup [y, y'], S', L, ?_, .tup (.cons hs (.cons hs' .nil)), .tup _ (fun z hz => ?_), rfl, hl, .inr hS, hR⟩
 ·rw [hres]
  exact .tmp hx (.tmp hx' .nil)
 ·simp at hz
  rcases hz with rfl | rfl
  ·exact hc
  ·exact hc'
def prO (id t : Nat) (l : Bs) : MObj := .tcells 59 [.ref id 0, .lst (some t) 1 (l.map encY)]
def pr (S : MS) (id t : Nat) (l : Bs) : MS := (S.set id (prO id t l)).set t (.row 5 1 l.length)
theorem pr_len (S : MS) (id t : Nat) (l : Bs) : (pr S id t l).length = S.length := by simp [pr]
theorem check_spec (id : Nat) (p q : MV) (hp : p = .ptr0 ∨ p = .ref id 0) (S : MS) (h : S[id]? = some (.tcells 59 [p, q])) : MCalls Tryz.prog 68 [.ref id 0] S fun v σ' => v = .tup [] ∧ σ' = S.set id (.tcells 59 [.ref id 0, q]) := by
 rcases hp with rfl | rfl
 ·exact check_new id q S h
 ·refine (check_used id q S h).mono fun v σ' hv => ⟨hv.1, ?_⟩
  rw [hv.2, set_self_o h]
theorem cls_pr {S : MS} {id t : Nat} {l : Bs} (h : ClS S) (hid : id < S.length) (ht : t < S.length) : ClS (pr S id t l) := by
 have h1 : ClS (S.set id (prO id t l)) := cls_tc h fun x hx => by
  rcases List.mem_cons.1 hx with rfl | hx
  ·exact .ref _ _ hid
  ·rcases List.mem_cons.1 hx with rfl | hx
   ·exact cl_lstT ht (fun y => .int _ _) (fun y => .inr rfl)
   ·cases hx
 intro i o ho
 unfold pr at ho ⊢
 rw [List.length_set]
 rcases List.mem_or_eq_of_mem_set (List.mem_of_getElem? ho) with hm | rfl
 ·obtain ⟨j, hj⟩ := List.getElem?_of_mem hm
  exact h1 j o hj
 ·exact trivial
theorem pr_norm {S : MS} {id t n : Nat} {a o : MObj} (hne : id ≠ t) : ((S.set id a).set t (.row 5 1 n)).set id o = (S.set id o).set t (.row 5 1 n) := by
 rw [List.set_comm _ _ hne.symm, List.set_set]
theorem write_spec (id t : Nat) (p : MV) (hp : p = .ptr0 ∨ p = .ref id 0) (l s : Bs) (hne : id ≠ t) (S : MS) (h : S[id]? = some (.tcells 59 [p, .lst (some t) 1 (l.map encY)])) (ht : S[t]? = some (.row 5 1 l.length)) (hlen : l.length + s.length ≤ 10000000) : MCalls Tryz.prog 40 [.ref id 0, .str (bs s)] S fun v σ' => v = .tup [.int .i64 (s.length : Int), .iface0] ∧ σ' = pr S id t (l ++ s) := by
 refine mcalls_body Tryz.func40 rfl Tryz.ntmps40 (Nat.le_of_ble_eq_true rfl) ?_
 refine mwp_facts fun _ hcl => ?_
 rw [List.append_nil] at hcl
 have hidl := (List.getElem?_eq_some_iff.1 h).1
 have htl := (List.getElem?_eq_some_iff.1 ht).1
 have h1 : (S.set id (.tcells 59 [.ref id 0, .lst (some t) 1 (l.map encY)]))[id]? = some (.tcells 59 [.ref id 0, .lst (some t) 1 (l.map encY)]) := get_set h
 have ht1 : (S.set id (.tcells 59 [.ref id 0, .lst (some t) 1 (l.map encY)]))[t]? = some (.row 5 1 l.length) := get_neO hne ht
 have h2 : ((S.set id (.tcells 59 [.ref id 0, .lst (some t) 1 (l.map encY)])).set t (.row 5 1 (l.length + s.length)))[id]? = some (.tcells 59 [.ref id 0, .lst (some t) 1 (l.map encY)]) := get_neO hne.symm h1
 refine mwp_seq <| qR rfl <| qA rfl rfl rfl <| qA rfl rfl rfl <| qN <| mwp_seq <| qR rfl <| qM rfl rfl rfl ?_
 refine wOps_op rfl (op_call rfl rfl rfl co68 ((check_spec id p _ hp (S ++ []) (get_slO h)).mono ?_))
 rintro _ _ ⟨rfl, rfl⟩
 rw [set_slO h]
 refine qN <| mwp_seq <| qR rfl <| qM rfl rfl rfl <| qM rfl rfl rfl <| qO rfl <| op_nilCheck rfl rfl rfl <| qF rfl rfl rfl fo57_1 <| qO rfl <| op_load_T rfl rfl (get_slO h1) ta48 rfl <| qM rfl rfl rfl <| qO rfl <| op_appendS rfl Tryz.underlying48 Tryz.underlying9 el5 rfl rfl (get_slO ht1) (by simp) (by omega) (by omega) ?_
 rw [set_slO ht1]
 refine qO rfl <| op_nilCheck rfl rfl rfl <| qF rfl rfl rfl fo57_1 <| qO rfl <| op_store_T rfl rfl rfl (get_slO h2) sz48 rfl rfl (Nat.le_of_ble_eq_true rfl) ?_
 rw [set_slO h2]
 refine qN <| mwp_seq <| qR rfl <| qM rfl rfl rfl <| qO rfl <| op_len_bs rfl Tryz.underlying9 rfl <| qA rfl rfl rfl <| qA rfl rfl rfl ?_
 have hE : ((S.set id (.tcells 59 [.ref id 0, .lst (some t) 1 (l.map encY)])).set t (.row 5 1 (l.length + s.length))).set id (.tcells 59 [.ref id 0, .lst (some t) 1 (l.map encY ++ s.map encY)]) = pr S id t (l ++ s) := by
  rw [← List.map_append, ← List.length_append]
  exact pr_norm hne
 refine qN <| mwp_ret ?_
 exact ret_tmp2S (.inr rfl) Tryz.results40 rfl rfl (.refl _) (.refl _) (.int _ _) .iface0 (by simp) (by
   have := cls_pr (l := l ++ s) hcl hidl htl
   rw [← hE] at this
   exact this) ⟨rfl, hE⟩
theorem cls_gone {S : MS} {t : Nat} (h : ClS S) : ClS (S.set t .gone) := by
 intro i o ho
 rw [List.length_set]
 rcases List.mem_or_eq_of_mem_set (List.mem_of_getElem? ho) with hm | rfl
 ·obtain ⟨j, hj⟩ := List.getElem?_of_mem hm
  exact h j o hj
 ·exact trivial
theorem string_spec (id t : Nat) (l : Bs) (hl0 : l ≠ []) (hne : id ≠ t) (S : MS) (h : S[id]? = some (.tcells 59 [.ref id 0, .lst (some t) 1 (l.map encY)])) (ht : S[t]? = some (.row 5 1 l.length)) (hlen : l.length ≤ 10000000) : MCalls Tryz.prog 22 [.ref id 0] S fun v σ' => v = .str (bs l) ∧ σ' = S.set t .gone := by
 refine mcalls_body Tryz.func22 rfl Tryz.ntmps22 (Nat.le_of_ble_eq_true rfl) ?_
 refine mwp_facts fun _ hcl => ?_
 rw [List.append_nil] at hcl
 have htl := (List.getElem?_eq_some_iff.1 ht).1
 have hg1 : (S.set t MObj.gone)[id]? = some (.tcells 59 [.ref id 0, .lst (some t) 1 (l.map encY)]) := get_neO hne.symm h
 have hg2 : (S.set t MObj.gone ++ [MObj.pin 5 l])[id]? = some (.tcells 59 [.ref id 0, .lst (some t) 1 (l.map encY)]) := get_slO hg1
 refine mwp_seq <| qR rfl <| qA rfl rfl rfl <| qN <| mwp_seq ?_
 refine mwp_draw [4, 10] [_, (S.set t .gone) ++ [MObj.pin 5 l], (S.set t .gone) ++ [MObj.gone]] mo (by decide) rfl rfl rfl rfl ?_
 refine dOps_op rfl rfl (.cons (op_move rfl rfl ⟨rfl, rfl⟩) (.cons (op_move rfl rfl ⟨rfl, rfl⟩) (.cons (op_move rfl rfl ⟨rfl, rfl⟩) (.nil)))) <| dOps_op rfl rfl (.cons (op_nilCheck rfl rfl rfl ⟨rfl, rfl⟩) (.cons (op_nilCheck rfl rfl rfl ⟨rfl, rfl⟩) (.cons (op_nilCheck rfl rfl rfl ⟨rfl, rfl⟩) (.nil)))) <| dOps_op rfl rfl (.cons (op_fieldAddr_ref rfl rfl fo57_1 ⟨rfl, rfl⟩) (.cons (op_fieldAddr_ref rfl rfl fo57_1 ⟨rfl, rfl⟩) (.cons (op_fieldAddr_ref rfl rfl fo57_1 ⟨rfl, rfl⟩) (.nil)))) <| dO rfl rfl rfl (op_load_T rfl rfl (by first | exact get_slO h | exact get_slO hg1 | exact get_slO hg2) ta48 rfl ⟨rfl, rfl⟩) ?_
 refine dOps_eff rfl rfl rfl rfl (op_sliceData rfl rfl hl0 (get_slO ht) rfl ⟨rfl, by rw [List.append_nil]⟩) ?_
 refine dOps_op rfl rfl (.cons (op_move rfl rfl ⟨rfl, rfl⟩) (.cons (op_move rfl rfl ⟨rfl, rfl⟩) (.cons (op_move rfl rfl ⟨rfl, rfl⟩) (.nil)))) <| dOps_op rfl rfl (.cons (op_nilCheck rfl rfl rfl ⟨rfl, rfl⟩) (.cons (op_nilCheck rfl rfl rfl ⟨rfl, rfl⟩) (.cons (op_nilCheck rfl rfl rfl ⟨rfl, rfl⟩) (.nil)))) <| dOps_op rfl rfl (.cons (op_fieldAddr_ref rfl rfl fo57_1 ⟨rfl, rfl⟩) (.cons (op_fieldAddr_ref rfl rfl fo57_1 ⟨rfl, rfl⟩) (.cons (op_fieldAddr_ref rfl rfl fo57_1 ⟨rfl, rfl⟩) (.nil)))) <| dOps_op rfl rfl (.cons (op_load_T rfl rfl (by first | exact get_slO h | exact get_slO hg1 | exact get_slO hg2) ta48 rfl ⟨rfl, rfl⟩) (.cons (op_load_T rfl rfl (by first | exact get_slO h | exact get_slO hg1 | exact get_slO hg2) ta48 rfl ⟨rfl, rfl⟩) (.cons (op_load_T rfl rfl (by first | exact get_slO h | exact get_slO hg1 | exact get_slO hg2) ta48 rfl ⟨rfl, rfl⟩) (.nil)))) ?_
 refine dOps_op rfl rfl (.cons (op_len_lst rfl Tryz.underlying48 rfl ⟨rfl, rfl⟩) (.cons (op_len_lst rfl Tryz.underlying48 rfl ⟨rfl, rfl⟩) (.nil))) <| dOps_eff rfl rfl rfl rfl (op_unsafeString rfl Tryz.underlying82 (by kernel_rfl) rfl rfl (by rw [List.length_map]) hl0 (by simp only [maxLen]; omega) (by rw [List.append_nil]; simp) ⟨rfl, by rw [List.append_nil]; simp⟩) ?_
 refine dO rfl rfl rfl (op_assign rfl rfl ⟨rfl, rfl⟩) <| dOps_nil <| mwp_ret ?_
 exact ret_tmpS (.inr rfl) Tryz.results22 rfl (.refl _) (.str _) (by simp) (cls_gone hcl) ⟨rfl, rfl⟩
end Go.Proofs.YthkikhggmbiffaaGreat
end
section
set_option linter.unusedVariables false
set_option linter.unusedSimpArgs false
set_option maxRecDepth 20000
set_option maxHeartbeats 400000
namespace Go.Proofs.YthkikhggmbiffaaGreat
open Go Go.MV
theorem rSameC_spec (a b : List Tk) (S : MS) : MCalls Tryz.prog 29 [.lst none 2 (a.map encT), .lst none 2 (b.map encT)] S fun v σ' => v = .bool (decide (a = b)) ∧ σ' = S := by
 refine mcalls_body Tryz.func29 rfl Tryz.ntmps29 (Nat.le_of_ble_eq_true rfl) ?_
 refine mwp_len (t := 0) rfl fun hlen => ?_
 rw [List.length_map] at hlen
 refine mwp_seq <| qR rfl <| qA rfl rfl rfl <| qN <| mwp_seq <| mwp_seq <| qR rfl <| qM rfl rfl rfl <| qE rfl rfl Tryz.underlying70 rfl <| qM rfl rfl rfl <| qE rfl rfl Tryz.underlying70 rfl <| qC rfl rfl rfl rfl rfl <| qN ?_
 refine mwp_cond_split rfl (fun h10 => ?_) (fun h10 => ?_)
 ·
  refine mwp_seq <| qR rfl <| qA rfl rfl rfl <| qN <| mwp_ret ?_
  exact ret_tmp (.inr rfl) Tryz.results29 rfl (.of_eq (by congr 1; symm; rw [decide_eq_false_iff_not]; intro e; subst e; simp at h10)) (.bool _) ⟨rfl, rfl⟩
 ·
  have hab : a.length = b.length := by simp at h10; omega
  refine mwp_skip <| mwp_seq <| mwp_seq <| qR rfl <| qA rfl rfl rfl <| qN <| mwp_block ?_
  refine mwp_loopK (α := Nat) [(0, _), (1, _)] (fun i => [(5, .int .i64 (i : Int))]) (fun i => []) (fun i => i ≤ a.length ∧ a.take i = b.take i) (fun i => a.length - i) (0) (.keep rfl (.keep rfl (.nil))) (.keep rfl (.nil)) (⟨by omega, rfl⟩) (rfl) ?_
  rintro i ⟨hi, heq⟩
  refine mwp_seq <| mwp_seq <| qR rfl <| qM rfl rfl rfl <| qM rfl rfl rfl <| qE rfl rfl Tryz.underlying70 rfl <| qC rfl rfl rfl rfl rfl <| qN ?_
  refine mwp_cond_split rfl (fun h14 => ?_) (fun h14 => ?_)
  ·
   have hlt : i < a.length := by simpa using h14
   obtain ⟨x, hs⟩ : ∃ q_, a[i]? = some q_ := ⟨_, List.getElem?_eq_getElem hlt⟩
   obtain ⟨y, hs2⟩ : ∃ s, b[i]? = some s := ⟨_, List.getElem?_eq_getElem (by omega)⟩
   refine mwp_skip <| mwp_seq <| mwp_block <| mwp_seq ?_
   refine mwp_draw [] [_] mo (by decide) rfl rfl rfl rfl ?_
   refine dO rfl rfl rfl (op_move rfl rfl ⟨rfl, rfl⟩) <| dO rfl rfl rfl (op_move rfl rfl ⟨rfl, rfl⟩) <| dO rfl rfl rfl (op_indexAddr rfl Tryz.underlying70 sz89 (by decide) rfl rfl rfl (get_map hs) ⟨rfl, rfl⟩) ?_
   refine dO rfl rfl rfl (op_load_sptr rfl rfl ta89 rfl ⟨rfl, rfl⟩) <| dO rfl rfl rfl (op_move rfl rfl ⟨rfl, rfl⟩) <| dO rfl rfl rfl (op_move rfl rfl ⟨rfl, rfl⟩) <| dO rfl rfl rfl (op_indexAddr rfl Tryz.underlying70 sz89 (by decide) rfl rfl rfl (get_map hs2) ⟨rfl, rfl⟩) ?_
   refine dO rfl rfl rfl (op_load_sptr rfl rfl ta89 rfl ⟨rfl, rfl⟩) <| dOps_op rfl rfl (.cons (op_eqstruct rfl (by kernel_rfl) rfl rfl rfl (.inr ⟨rfl, rfl⟩) ⟨rfl, rfl⟩) .nil) ?_
   refine dOps_nil ?_
   refine mwp_cond_split rfl (fun h25 => ?_) (fun h25 => ?_)
   ·
    refine mwp_seq <| qR rfl <| qA rfl rfl rfl <| qN <| mwp_ret ?_
    exact ret_tmp (.inr rfl) Tryz.results29 rfl (.of_eq (by congr 1; symm; rw [decide_eq_false_iff_not]; intro e; subst e; rw [hs2] at hs; injection hs with hs; subst hs; simp at h25)) (.bool _) ⟨rfl, rfl⟩
   ·
    refine mwp_skip <| qR rfl <| qM rfl rfl rfl <| qO rfl <| op_arith rfl rfl rfl rfl <| qA rfl rfl rfl <| qN ?_
    refine ⟨i + 1, by omega, ⟨by omega, ?_⟩, rfl, (.keep rfl (.keep rfl (.nil))), (.eq rfl (int_succ hlt hlen) (.nil))⟩
    rw [List.take_add_one, List.take_add_one, hs, hs2, heq]
    obtain ⟨x1, x2⟩ := x; obtain ⟨y1, y2⟩ := y
    simp at h25
    rw [h25.1, h25.2]
  ·
   have hge : i = a.length := by simp at h14; omega
   refine mwp_exit <| mwp_seq <| qR rfl <| qA rfl rfl rfl <| qN <| mwp_ret ?_
   exact ret_tmp (.inr rfl) Tryz.results29 rfl (.of_eq (by congr 1; symm; rw [decide_eq_true_iff]; rw [hge, List.take_length, hab, List.take_length] at heq; exact heq)) (.bool _) ⟨rfl, rfl⟩
end Go.Proofs.YthkikhggmbiffaaGreat
end
section
set_option linter.unusedVariables false
set_option linter.unusedSimpArgs false
set_option maxRecDepth 20000
set_option maxHeartbeats 400000
namespace Go.Proofs.YthkikhggmbiffaaGreat
open Go Go.MV
theorem valIs_spec (s : Sch) (x : Val) (hx : okV x) (S : MS) : MCalls Tryz.prog 20 [encS s, encV x] S fun v σ' => v = .bool (isF 16 s && isVF s x) ∧ σ' = S := by
 obtain ⟨k, ins⟩ := s
 obtain ⟨n, m, s, c, w⟩ := x
 refine mcalls_body Tryz.func20 rfl Tryz.ntmps20 (Nat.le_of_ble_eq_true rfl) ?_
 refine mwp_seq <| qR rfl <| qB rfl rfl rfl rfl rfl <| qB rfl rfl rfl rfl rfl <| qA rfl rfl rfl <| qN <| mwp_seq <| qR rfl <| qL rfl rfl rfl rfl ta24 rfl ?_
 refine wOps_op rfl (op_call rfl rfl rfl co23 ((Is_spec (.mk k ins) _).mono ?_))
 rintro _ _ ⟨rfl, rfl⟩
 refine qM rfl rfl rfl ?_
 refine wOps_case (fun h7 => ?_) (fun h7 => ?_)
 ·
  refine qL rfl rfl rfl rfl ta24 rfl <| qL rfl rfl rfl rfl ta30 rfl ?_
  refine wOps_op rfl (op_call rfl rfl rfl co38 ((isV_spec 16 (.mk k ins) h7 (.mk n m s c w) hx _).mono ?_))
  rintro _ _ ⟨rfl, rfl⟩
  refine qP rfl rfl rfl rfl <| qA rfl rfl rfl <| qN <| mwp_ret ?_
  exact ret_tmp (.inr rfl) Tryz.results20 rfl (.of_eq (by simp_all)) (.bool _) ⟨rfl, rfl⟩
 ·
  refine qS rfl <| qS rfl <| qS rfl <| qP rfl rfl rfl rfl <| qA rfl rfl rfl <| qN <| mwp_ret ?_
  exact ret_tmp (.inr rfl) Tryz.results20 rfl (.of_eq (by simp_all)) (.bool _) ⟨rfl, rfl⟩
theorem xSame_spec (a b : List Bs) (S : MS) : MCalls Tryz.prog 28 [.lst none 1 (a.map encX), .lst none 1 (b.map encX)] S fun v σ' => v = .bool (decide (a = b)) ∧ σ' = S := by
 refine mcalls_body Tryz.func28 rfl Tryz.ntmps28 (Nat.le_of_ble_eq_true rfl) ?_
 refine mwp_len (t := 0) rfl fun hlen => ?_
 rw [List.length_map] at hlen
 refine mwp_seq <| qR rfl <| qA rfl rfl rfl <| qN <| mwp_seq <| mwp_seq <| qR rfl <| qM rfl rfl rfl <| qE rfl rfl Tryz.underlying26 rfl <| qM rfl rfl rfl <| qE rfl rfl Tryz.underlying26 rfl <| qC rfl rfl rfl rfl rfl <| qN ?_
 refine mwp_cond_split rfl (fun h10 => ?_) (fun h10 => ?_)
 ·
  refine mwp_seq <| qR rfl <| qA rfl rfl rfl <| qN <| mwp_ret ?_
  exact ret_tmp (.inr rfl) Tryz.results28 rfl (.of_eq (by congr 1; symm; rw [decide_eq_false_iff_not]; intro e; subst e; simp at h10)) (.bool _) ⟨rfl, rfl⟩
 ·
  have hab : a.length = b.length := by simp at h10; omega
  refine mwp_skip <| mwp_seq <| mwp_seq <| qR rfl <| qA rfl rfl rfl <| qN <| mwp_block ?_
  refine mwp_loopK (α := Nat) [(0, _), (1, _)] (fun i => [(5, .int .i64 (i : Int))]) (fun i => []) (fun i => i ≤ a.length ∧ a.take i = b.take i) (fun i => a.length - i) (0) (.keep rfl (.keep rfl (.nil))) (.keep rfl (.nil)) (⟨by omega, rfl⟩) (rfl) ?_
  rintro i ⟨hi, heq⟩
  refine mwp_seq <| mwp_seq <| qR rfl <| qM rfl rfl rfl <| qM rfl rfl rfl <| qE rfl rfl Tryz.underlying26 rfl <| qC rfl rfl rfl rfl rfl <| qN ?_
  refine mwp_cond_split rfl (fun h14 => ?_) (fun h14 => ?_)
  ·
   have hlt : i < a.length := by simpa using h14
   obtain ⟨x, hs⟩ : ∃ q_, a[i]? = some q_ := ⟨_, List.getElem?_eq_getElem hlt⟩
   obtain ⟨y, hs2⟩ : ∃ s, b[i]? = some s := ⟨_, List.getElem?_eq_getElem (by omega)⟩
   refine mwp_skip <| mwp_seq <| mwp_block <| mwp_seq ?_
   refine mwp_draw [] [_] mo (by decide) rfl rfl rfl rfl ?_
   refine dO rfl rfl rfl (op_move rfl rfl ⟨rfl, rfl⟩) <| dO rfl rfl rfl (op_move rfl rfl ⟨rfl, rfl⟩) <| dO rfl rfl rfl (op_indexAddr rfl Tryz.underlying26 sz9 (by decide) rfl rfl rfl (get_map hs) ⟨rfl, rfl⟩) ?_
   refine dO rfl rfl rfl (op_load_sptr rfl rfl ta9 rfl ⟨rfl, rfl⟩) <| dO rfl rfl rfl (op_move rfl rfl ⟨rfl, rfl⟩) <| dO rfl rfl rfl (op_move rfl rfl ⟨rfl, rfl⟩) <| dO rfl rfl rfl (op_indexAddr rfl Tryz.underlying26 sz9 (by decide) rfl rfl rfl (get_map hs2) ⟨rfl, rfl⟩) ?_
   refine dO rfl rfl rfl (op_load_sptr rfl rfl ta9 rfl ⟨rfl, rfl⟩) <| dO rfl rfl rfl (op_strcmp rfl rfl rfl rfl ⟨rfl, rfl⟩) <| dOps_nil ?_
   refine mwp_cond_split rfl (fun h25 => ?_) (fun h25 => ?_)
   ·
    refine mwp_seq <| qR rfl <| qA rfl rfl rfl <| qN <| mwp_ret ?_
    exact ret_tmp (.inr rfl) Tryz.results28 rfl (.of_eq (by congr 1; symm; rw [decide_eq_false_iff_not]; intro e; subst e; rw [hs2] at hs; injection hs with hs; subst hs; simp at h25)) (.bool _) ⟨rfl, rfl⟩
   ·
    refine mwp_skip <| qR rfl <| qM rfl rfl rfl <| qO rfl <| op_arith rfl rfl rfl rfl <| qA rfl rfl rfl <| qN ?_
    refine ⟨i + 1, by omega, ⟨by omega, ?_⟩, rfl, (.keep rfl (.keep rfl (.nil))), (.eq rfl (int_succ hlt hlen) (.nil))⟩
    rw [List.take_add_one, List.take_add_one, hs, hs2, heq]
    simp at h25
    rw [h25]
  ·
   have hge : i = a.length := by simp at h14; omega
   refine mwp_exit <| mwp_seq <| qR rfl <| qA rfl rfl rfl <| qN <| mwp_ret ?_
   exact ret_tmp (.inr rfl) Tryz.results28 rfl (.of_eq (by congr 1; symm; rw [decide_eq_true_iff]; rw [hge, List.take_length, hab, List.take_length] at heq; exact heq)) (.bool _) ⟨rfl, rfl⟩
theorem rvSame_spec (d : Nat) : ∀ (a b : Val), vdepth a ≤ d → ∀ S : MS, MCalls Tryz.prog 11 [encV a, encV b] S fun v σ' => v = .bool (decide (a = b)) ∧ σ' = S := by
 induction d with
 | zero => rintro ⟨n, m, s, c, w⟩ b h; simp [vdepth] at h
 | succ d ih =>
 rintro ⟨n, m, s, c, w⟩ ⟨n2, m2, s2, c2, w2⟩ hd S
 have hmem : ∀ x ∈ w, vdepth x ≤ d := fun x hx => by have := vdepth_mem hx; rw [vdepth] at hd; omega
 refine mcalls_body Tryz.func11 rfl Tryz.ntmps11 (Nat.le_of_ble_eq_true rfl) ?_
 refine mwp_seq <| qR rfl <| qB rfl rfl rfl rfl rfl <| qB rfl rfl rfl rfl rfl <| qA rfl rfl rfl <| qN <| mwp_seq <| mwp_seq <| qR rfl <| qF rfl rfl rfl fo30_0 <| qL rfl rfl rfl rfl ta25 rfl <| qF rfl rfl rfl fo30_0 <| qL rfl rfl rfl rfl ta25 rfl <| qC rfl rfl rfl rfl rfl <| qM rfl rfl rfl ?_
 refine wOps_case (fun h12 => ?_) (fun h12 => ?_)
 ·
  refine qS rfl <| qS rfl <| qS rfl <| qS rfl <| qS rfl <| qP rfl rfl rfl rfl <| qM rfl rfl rfl <| qS rfl <| qS rfl <| qS rfl <| qS rfl <| qS rfl <| qS rfl <| qP rfl rfl rfl rfl <| qM rfl rfl rfl <| qS rfl <| qS rfl <| qS rfl <| qS rfl <| qS rfl <| qS rfl <| qS rfl <| qP rfl rfl rfl rfl <| qM rfl rfl rfl ?_
  refine qS rfl <| qS rfl <| qS rfl <| qS rfl <| qS rfl <| qS rfl <| qS rfl <| qP rfl rfl rfl rfl <| qN <| mwp_cond_t rfl (rfl) <| mwp_seq <| qR rfl <| qA rfl rfl rfl <| qN <| mwp_ret ?_
  exact ret_tmp (.inr rfl) Tryz.results11 rfl (.of_eq (by congr 1; rw [Bool.eq_iff_iff]; simp_all <;> (intros; simp_all))) (.bool _) ⟨rfl, rfl⟩
 ·
  refine qF rfl rfl rfl fo30_1 <| qL rfl rfl rfl rfl ta25 rfl <| qF rfl rfl rfl fo30_1 <| qL rfl rfl rfl rfl ta25 rfl <| qC rfl rfl rfl rfl rfl <| qP rfl rfl rfl rfl <| qM rfl rfl rfl ?_
  refine wOps_case (fun h19 => ?_) (fun h19 => ?_)
  ·
   refine qS rfl <| qS rfl <| qS rfl <| qS rfl <| qS rfl <| qS rfl <| qP rfl rfl rfl rfl <| qM rfl rfl rfl <| qS rfl <| qS rfl <| qS rfl <| qS rfl <| qS rfl <| qS rfl <| qS rfl <| qP rfl rfl rfl rfl <| qM rfl rfl rfl <| qS rfl <| qS rfl <| qS rfl <| qS rfl <| qS rfl <| qS rfl <| qS rfl <| qP rfl rfl rfl rfl ?_
   refine qN <| mwp_cond_t rfl (rfl) <| mwp_seq <| qR rfl <| qA rfl rfl rfl <| qN <| mwp_ret ?_
   exact ret_tmp (.inr rfl) Tryz.results11 rfl (.of_eq (by congr 1; rw [Bool.eq_iff_iff]; simp_all <;> (intros; simp_all))) (.bool _) ⟨rfl, rfl⟩
  ·
   refine qF rfl rfl rfl fo30_2 <| qL rfl rfl rfl rfl ta26 rfl <| qF rfl rfl rfl fo30_2 <| qL rfl rfl rfl rfl ta26 rfl ?_
   refine wOps_op rfl (op_call rfl rfl rfl co28 ((xSame_spec s s2 _).mono ?_))
   rintro _ _ ⟨rfl, rfl⟩
   refine qO rfl <| op_not rfl rfl <| qP rfl rfl rfl rfl <| qM rfl rfl rfl ?_
   refine wOps_case (fun h27 => ?_) (fun h27 => ?_)
   ·
    refine qS rfl <| qS rfl <| qS rfl <| qS rfl <| qS rfl <| qS rfl <| qS rfl <| qP rfl rfl rfl rfl <| qM rfl rfl rfl <| qS rfl <| qS rfl <| qS rfl <| qS rfl <| qS rfl <| qS rfl <| qS rfl <| qP rfl rfl rfl rfl <| qN <| mwp_cond_t rfl (rfl) <| mwp_seq <| qR rfl <| qA rfl rfl rfl <| qN <| mwp_ret ?_
    exact ret_tmp (.inr rfl) Tryz.results11 rfl (.of_eq (by congr 1; rw [Bool.eq_iff_iff]; simp_all <;> (intros; simp_all))) (.bool _) ⟨rfl, rfl⟩
   ·
    refine qF rfl rfl rfl fo30_3 <| qL rfl rfl rfl rfl ta27 rfl <| qE rfl rfl Tryz.underlying27 rfl <| qF rfl rfl rfl fo30_3 <| qL rfl rfl rfl rfl ta27 rfl <| qE rfl rfl Tryz.underlying27 rfl <| qC rfl rfl rfl rfl rfl <| qP rfl rfl rfl rfl <| qM rfl rfl rfl ?_
    refine wOps_case (fun h36 => ?_) (fun h36 => ?_)
    ·
     have hcne : ¬ c = c2 := by intro e; subst e; simp at h36
     refine qS rfl <| qS rfl <| qS rfl <| qS rfl <| qS rfl <| qS rfl <| qS rfl <| qP rfl rfl rfl rfl <| qN <| mwp_cond_t rfl (rfl) <| mwp_seq <| qR rfl <| qA rfl rfl rfl <| qN <| mwp_ret ?_
     exact ret_tmp (.inr rfl) Tryz.results11 rfl (.of_eq (by congr 1; rw [Bool.eq_iff_iff]; simp_all <;> (intros; simp_all))) (.bool _) ⟨rfl, rfl⟩
    ·
     have hcc : c.length = c2.length := by rw [List.length_map, List.length_map] at h36; simp at h36; omega
     refine qF rfl rfl rfl fo30_4 <| qL rfl rfl rfl rfl ta28 rfl <| qE rfl rfl Tryz.underlying28 rfl <| qF rfl rfl rfl fo30_4 <| qL rfl rfl rfl rfl ta28 rfl <| qE rfl rfl Tryz.underlying28 rfl <| qC rfl rfl rfl rfl rfl <| qP rfl rfl rfl rfl <| qN ?_
     refine mwp_cond_split rfl (fun h44 => ?_) (fun h44 => ?_)
     ·
      have hwne : ¬ w = w2 := by intro e; subst e; simp at h44
      refine mwp_seq <| qR rfl <| qA rfl rfl rfl <| qN <| mwp_ret ?_
      exact ret_tmp (.inr rfl) Tryz.results11 rfl (.of_eq (by congr 1; rw [Bool.eq_iff_iff]; simp_all <;> (intros; simp_all))) (.bool _) ⟨rfl, rfl⟩
     ·
      have hww : w.length = w2.length := by rw [encVs_length, encVs_length] at h44; simp at h44; omega
      refine mwp_len (t := 29) rfl fun hlc => ?_
      refine mwp_len (t := 38) rfl fun hlw => ?_
      rw [List.length_map] at hlc
      rw [encVs_length] at hlw
      refine mwp_skip <| mwp_seq <| mwp_seq <| qR rfl <| qA rfl rfl rfl <| qN <| mwp_block ?_
      refine mwp_loopK (α := Nat) [(2, _), (3, _)] (fun i => [(5, .int .i64 (i : Int))]) (fun i => [.cells (encV (.mk n m s c w)).cells, .cells (encV (.mk n2 m2 s2 c2 w2)).cells]) (fun i => i ≤ c.length ∧ c.take i = c2.take i) (fun i => c.length - i) (0) (.keep rfl (.keep rfl (.nil))) (.keep rfl (.nil)) (⟨by omega, rfl⟩) (rfl) ?_
      rintro i ⟨hi, heq⟩
      refine mwp_seq <| mwp_seq <| qR rfl <| qM rfl rfl rfl <| qF rfl rfl rfl fo30_3 <| qL rfl rfl rfl rfl ta27 rfl <| qE rfl rfl Tryz.underlying27 rfl <| qC rfl rfl rfl rfl rfl <| qN ?_
      refine mwp_cond_split rfl (fun h49 => ?_) (fun h49 => ?_)
      ·
       have hlt : i < c.length := by simpa using h49
       obtain ⟨x, hs⟩ : ∃ q_, c[i]? = some q_ := ⟨_, List.getElem?_eq_getElem hlt⟩
       obtain ⟨y, hs2⟩ : ∃ s, c2[i]? = some s := ⟨_, List.getElem?_eq_getElem (by omega)⟩
       refine mwp_skip <| mwp_seq <| mwp_block <| mwp_seq ?_
       refine mwp_draw [] [_] mo (by decide) rfl rfl rfl rfl ?_
       refine dO rfl rfl rfl (op_fieldAddr_ref rfl rfl fo30_3 ⟨rfl, rfl⟩) <| dO rfl rfl rfl (op_load' rfl rfl rfl ta27 rfl ⟨rfl, rfl⟩) <| dO rfl rfl rfl (op_move rfl rfl ⟨rfl, rfl⟩) <| dO rfl rfl rfl (op_indexAddr rfl Tryz.underlying27 sz70 (by decide) rfl rfl rfl (get_map hs) ⟨rfl, rfl⟩) ?_
       refine dO rfl rfl rfl (op_load_sptr rfl rfl ta70 rfl ⟨rfl, rfl⟩) <| dO rfl rfl rfl (op_fieldAddr_ref rfl rfl fo30_3 ⟨rfl, rfl⟩) <| dO rfl rfl rfl (op_load' rfl rfl rfl ta27 rfl ⟨rfl, rfl⟩) <| dO rfl rfl rfl (op_move rfl rfl ⟨rfl, rfl⟩) <| dO rfl rfl rfl (op_indexAddr rfl Tryz.underlying27 sz70 (by decide) rfl rfl rfl (get_map hs2) ⟨rfl, rfl⟩) ?_
       refine dO rfl rfl rfl (op_load_sptr rfl rfl ta70 rfl ⟨rfl, rfl⟩) <| dOps_op rfl rfl (.cons (op_call rfl rfl rfl co29 (rSameC_spec x y _)) .nil) <| dO rfl rfl rfl (op_not rfl rfl ⟨rfl, rfl⟩) <| dOps_nil ?_
       refine mwp_cond_split rfl (fun h63 => ?_) (fun h63 => ?_)
       ·
        refine mwp_seq <| qR rfl <| qA rfl rfl rfl <| qN <| mwp_ret ?_
        exact ret_tmp (.inr rfl) Tryz.results11 rfl (.of_eq (by congr 1; symm; rw [decide_eq_false_iff_not]; intro e; injection e with e1 e2 e3 e4 e5; subst e4; rw [hs2] at hs; injection hs with hs; subst hs; simp at h63)) (.bool _) ⟨rfl, rfl⟩
       ·
        refine mwp_skip <| qR rfl <| qM rfl rfl rfl <| qO rfl <| op_arith rfl rfl rfl rfl <| qA rfl rfl rfl <| qN ?_
        refine ⟨i + 1, by omega, ⟨by omega, ?_⟩, rfl, (.keep rfl (.keep rfl (.nil))), (.eq rfl (int_succ hlt hlc) (.nil))⟩
        rw [List.take_add_one, List.take_add_one, hs, hs2, heq, not_dec h63]
      ·
       have hge : i = c.length := by simp at h49; omega
       rw [hge, List.take_length, hcc, List.take_length] at heq
       refine mwp_exit <| mwp_seq <| mwp_seq <| qR rfl <| qA rfl rfl rfl <| qN <| mwp_block ?_
       refine mwp_loopK (α := Nat) [(2, _), (3, _)] (fun k => [(6, .int .i64 (k : Int))]) (fun k => [.cells (encV (.mk n m s c w)).cells, .cells (encV (.mk n2 m2 s2 c2 w2)).cells]) (fun k => k ≤ w.length ∧ w.take k = w2.take k) (fun k => w.length - k) (0) (.keep rfl (.keep rfl (.nil))) (.keep rfl (.nil)) (⟨by omega, rfl⟩) (rfl) ?_
       rintro k ⟨hk, heq2⟩
       refine mwp_seq <| mwp_seq <| qR rfl <| qM rfl rfl rfl <| qF rfl rfl rfl fo30_4 <| qL rfl rfl rfl rfl ta28 rfl <| qE rfl rfl Tryz.underlying28 rfl <| qC rfl rfl rfl rfl rfl <| qN ?_
       refine mwp_cond_split rfl (fun h68 => ?_) (fun h68 => ?_)
       ·
        rw [encVs_length] at h68
        have hlt2 : k < w.length := by simpa using h68
        obtain ⟨⟨n3, m3, s3, c3, w3⟩, hs3⟩ : ∃ q, w[k]? = some q := ⟨_, List.getElem?_eq_getElem hlt2⟩
        obtain ⟨⟨n4, m4, s4, c4, w4⟩, hs4⟩ : ∃ q, w2[k]? = some q := ⟨_, List.getElem?_eq_getElem (by omega)⟩
        refine mwp_skip <| mwp_seq <| mwp_block <| mwp_seq ?_
        refine mwp_draw [] [_] mo (by decide) rfl rfl rfl rfl ?_
        refine dO rfl rfl rfl (op_fieldAddr_ref rfl rfl fo30_4 ⟨rfl, rfl⟩) <| dO rfl rfl rfl (op_load' rfl rfl rfl ta28 rfl ⟨rfl, rfl⟩) <| dO rfl rfl rfl (op_move rfl rfl ⟨rfl, rfl⟩) <| dO rfl rfl rfl (op_indexAddr rfl Tryz.underlying28 sz30 (by decide) rfl rfl rfl (encVs_get hs3) ⟨rfl, rfl⟩) ?_
        refine dO rfl rfl rfl (op_load_sptr rfl rfl ta30 rfl ⟨rfl, rfl⟩) <| dO rfl rfl rfl (op_fieldAddr_ref rfl rfl fo30_4 ⟨rfl, rfl⟩) <| dO rfl rfl rfl (op_load' rfl rfl rfl ta28 rfl ⟨rfl, rfl⟩) <| dO rfl rfl rfl (op_move rfl rfl ⟨rfl, rfl⟩) <| dO rfl rfl rfl (op_indexAddr rfl Tryz.underlying28 sz30 (by decide) rfl rfl rfl (encVs_get hs4) ⟨rfl, rfl⟩) ?_
        refine dO rfl rfl rfl (op_load_sptr rfl rfl ta30 rfl ⟨rfl, rfl⟩) <| dOps_op rfl rfl (.cons (op_call rfl rfl rfl co11 (ih (.mk n3 m3 s3 c3 w3) (.mk n4 m4 s4 c4 w4) (hmem _ (List.mem_of_getElem? hs3)) _)) .nil) <| dO rfl rfl rfl (op_not rfl rfl ⟨rfl, rfl⟩) <| dOps_nil ?_
        refine mwp_cond_split rfl (fun h82 => ?_) (fun h82 => ?_)
        ·
         refine mwp_seq <| qR rfl <| qA rfl rfl rfl <| qN <| mwp_ret ?_
         exact ret_tmp (.inr rfl) Tryz.results11 rfl (.of_eq (by congr 1; symm; rw [decide_eq_false_iff_not]; intro e; injection e with e1 e2 e3 e4 e5; subst e5; rw [hs4] at hs3; injection hs3 with hs3; rw [hs3] at h82; simp at h82)) (.bool _) ⟨rfl, rfl⟩
        ·
         refine mwp_skip <| qR rfl <| qM rfl rfl rfl <| qO rfl <| op_arith rfl rfl rfl rfl <| qA rfl rfl rfl <| qN ?_
         refine ⟨k + 1, by omega, ⟨by omega, ?_⟩, rfl, (.keep rfl (.keep rfl (.nil))), (.eq rfl (int_succ hlt2 hlw) (.nil))⟩
         rw [List.take_add_one, List.take_add_one, hs3, hs4, heq2, not_dec h82]
       ·
        rw [encVs_length] at h68
        have hge2 : k = w.length := by simp at h68; omega
        rw [hge2, List.take_length, hww, List.take_length] at heq2
        refine mwp_exit <| mwp_seq <| qR rfl <| qA rfl rfl rfl <| qN <| mwp_ret ?_
        exact ret_tmp (.inr rfl) Tryz.results11 rfl (.of_eq (by congr 1; rw [Bool.eq_iff_iff]; simp_all)) (.bool _) ⟨rfl, rfl⟩
theorem rSame_spec (a b : Val) (S : MS) : MCalls Tryz.prog 11 [encV a, encV b] S fun v σ' => v = .bool (decide (a = b)) ∧ σ' = S := rvSame_spec _ a b (Nat.le_refl _) S
end Go.Proofs.YthkikhggmbiffaaGreat
end
section
set_option linter.unusedVariables false
set_option linter.unusedSimpArgs false
set_option maxRecDepth 20000
set_option maxHeartbeats 400000
namespace Go.Proofs.YthkikhggmbiffaaGreat
open Go Go.MV Go.RowKit
structure PrAt (S : MS) (id t : Nat) (l : Bs) : Prop where
 ne : id ≠ t
 ob : ∃ p, (p = .ptr0 ∨ p = .ref id 0) ∧ S[id]? = some (.tcells 59 [p, .lst (some t) 1 (l.map encY)])
 row : S[t]? = some (.row 5 1 l.length)
theorem PrAt.idl {S : MS} {id t : Nat} {l : Bs} (h : PrAt S id t l) : id < S.length := by
 obtain ⟨p, _, hp⟩ := h.ob
 exact (List.getElem?_eq_some_iff.1 hp).1
theorem PrAt.tl {S : MS} {id t : Nat} {l : Bs} (h : PrAt S id t l) : t < S.length := (List.getElem?_eq_some_iff.1 h.row).1
theorem PrAt.pr {S : MS} {id t : Nat} {l : Bs} (h : PrAt S id t l) (m : Bs) : PrAt (pr S id t m) id t m := by
 refine ⟨h.ne, ⟨_, .inr rfl, ?_⟩, ?_⟩
 ·unfold Go.Proofs.YthkikhggmbiffaaGreat.pr prO
  exact get_neO h.ne.symm (by rw [List.getElem?_set_self h.idl])
 ·unfold Go.Proofs.YthkikhggmbiffaaGreat.pr
  rw [List.getElem?_set_self (by simpa using h.tl)]
theorem PrAt.sl {S : MS} {id t : Nat} {l : Bs} (h : PrAt S id t l) (L : MS) : PrAt (S ++ L) id t l := by
 obtain ⟨p, hp, ho⟩ := h.ob
 exact ⟨h.ne, ⟨p, hp, get_slO ho⟩, get_slO h.row⟩
theorem pr_sl {S : MS} {id t : Nat} {l m : Bs} (h : PrAt S id t l) (L : MS) : pr (S ++ L) id t m = pr S id t m ++ L := by
 unfold pr
 rw [List.set_append_left _ _ h.idl, List.set_append_left _ _ (by simpa using h.tl)]
theorem pr_pr {S : MS} {id t : Nat} {l m n : Bs} (h : PrAt S id t l) : pr (pr S id t m) id t n = pr S id t n := by
 unfold pr
 rw [List.set_comm _ _ h.ne.symm, List.set_set, List.set_set]
theorem write_at {S : MS} {id t : Nat} {l : Bs} (h : PrAt S id t l) (s : Bs) (hlen : l.length + s.length ≤ 10000000) (L : MS) : MCalls Tryz.prog 40 [.ref id 0, .str (bs s)] (S ++ L) fun v σ' => v = .tup [.int .i64 (s.length : Int), .iface0] ∧ σ' = pr S id t (l ++ s) ++ L := by
 obtain ⟨p, hp, ho⟩ := (h.sl L).ob
 refine (write_spec id t p hp l s h.ne _ ho (h.sl L).row hlen).mono fun v σ' hv => ⟨hv.1, ?_⟩
 rw [hv.2, pr_sl h]
def Writes (k : FuncId) (id t : Nat) (xs : List MV) (s : Bs) : Prop := ∀ (l : Bs) (S : MS), PrAt S id t l → l.length + s.length ≤ 8000000 → MCalls Tryz.prog k xs S fun v σ' => v = .tup [] ∧ σ' = pr S id t (l ++ s)
theorem Writes.sl {k : FuncId} {id t : Nat} {xs : List MV} {s l : Bs} (hw : Writes k id t xs s) {S : MS} (h : PrAt S id t l) (hl : l.length + s.length ≤ 8000000) (L : MS) : MCalls Tryz.prog k xs (S ++ L) fun v σ' => v = .tup [] ∧ σ' = pr S id t (l ++ s) ++ L :=
 (hw l (S ++ L) (h.sl L) hl).mono fun v σ' hv => ⟨hv.1, by rw [hv.2, pr_sl h]⟩
theorem flat_len {s : List Bs} (h : ∀ x ∈ s, x.length ≤ 1000) : ∀ i, ((s.take i).flatMap textB).length ≤ i * 1003
 | 0 => by simp
 | i + 1 => by
  have ih := flat_len h i
  rw [List.take_add_one, List.flatMap_append, List.length_append]
  cases hs : s[i]? with
  | none => simp only [Option.toList_none, List.flatMap_nil, List.length_nil]; omega
  | some x =>
   have hx := h x (List.mem_of_getElem? hs)
   have := (numB_len (show x.length < 2097152 by omega)).2
   simp only [Option.toList_some, List.flatMap_cons, List.flatMap_nil, List.append_nil, textB, List.length_append]
   omega
theorem flat_take {s : List Bs} {i : Nat} {x : Bs} (h : s[i]? = some x) : (s.take (i + 1)).flatMap textB = (s.take i).flatMap textB ++ textB x := by
 rw [List.take_add_one, h, List.flatMap_append]
 simp
theorem numB_len10 : ∀ k m : Nat, m < 128 ^ (k + 1) → (numB m).length ≤ k + 1
 | 0, m, h => by rw [numB_lo (by simpa using h)]; simp
 | k + 1, m, h => by
  by_cases hm : m < 128
  ·rw [numB_lo hm]; simp
  ·have := numB_len10 k (m / 128) (by rw [Nat.pow_succ] at h; omega)
   rw [numB_hi hm]
   simp
   exact this
theorem num_writes (id t n : Nat) (hn : n < 18446744073709551616) : Writes 39 id t [.ref id 0, .int .u64 (n : Int)] (numB n) := by
 intro l S h hl
 have hnl := numB_len10 9 n (by omega)
 refine mcalls_body Tryz.func39 rfl Tryz.ntmps39 (Nat.le_of_ble_eq_true rfl) ?_
 refine mwp_facts fun _ hcl => ?_
 rw [List.append_nil] at hcl
 refine mwp_draw [5] [_, pr S id t (l ++ numB n) ++ []] mo (by decide) rfl rfl rfl rfl ?_
 refine dOps_op rfl rfl (.cons (op_move rfl rfl ⟨rfl, rfl⟩) (.cons (op_move rfl rfl ⟨rfl, rfl⟩) (.nil))) <| dOps_op rfl rfl (.cons (op_nilCheck rfl rfl rfl ⟨rfl, rfl⟩) (.cons (op_nilCheck rfl rfl rfl ⟨rfl, rfl⟩) (.nil))) <| dO rfl rfl rfl (op_fieldAddr_ref rfl rfl fo59_0 ⟨rfl, rfl⟩) <| dOps_op rfl rfl (.cons (op_move rfl rfl ⟨rfl, rfl⟩) (.cons (op_move rfl rfl ⟨rfl, rfl⟩) (.nil))) <| dOps_op rfl rfl (.cons (op_call rfl rfl rfl co15 (codeNum_spec n hn (by omega) _)) .nil) ?_
 refine dOps_eff rfl rfl rfl rfl (op_call rfl rfl rfl co40 (write_at h (numB n) (by omega) [])) ?_
 refine dOps_nil ?_
 exact ret_noneS (by simp) Tryz.results39 (by rw [pr_len]; exact Nat.le_refl _) (cls_pr hcl h.idl h.tl) ⟨rfl, rfl⟩
def flatB (k : Int) : Val → Bs
 | .mk n _ s _ _ => if k = 3 then rowB textB s else numB n.toNat
theorem flat_writes (k : Int) (ins : List Sch) (hk : k = 1 ∨ k = 2 ∨ k = 3) (n m : Int) (s : List Bs) (c : List (List Tk)) (w : List Val) (hn : 0 ≤ n ∧ n < 18446744073709551616) (hsl : s.length ≤ 1000) (hs0 : ∀ x ∈ s, x.length ≤ 1000) (id t : Nat) : Writes 21 id t [.ref id 0, encS (.mk k ins), encV (.mk n m s c w)] (flatB k (.mk n m s c w)) := by
 intro l S h hl
 rcases hk with rfl | rfl | rfl
 ·
  obtain ⟨n, rfl⟩ : ∃ q : Nat, n = (q : Int) := ⟨n.toNat, by omega⟩
  refine mcalls_body Tryz.func21 rfl Tryz.ntmps21 (Nat.le_of_ble_eq_true rfl) ?_
  refine mwp_facts fun _ hcl => ?_
  rw [List.append_nil] at hcl
  have hlen' : s.length ≤ maxLen := by simp only [maxLen]; omega
  have hnb := numB_len10 9 s.length (by omega)
  refine mwp_seq <| qR rfl <| qB rfl rfl rfl rfl rfl <| qB rfl rfl rfl rfl rfl <| qN <| mwp_seq <| qR rfl <| qF rfl rfl rfl fo24_0 <| qO rfl <| op_load_own (by simp [pr_len]) rfl rfl rfl ta3 rfl ?_
  refine qN <| mwp_block <| mwp_seq <| mwp_seq <| qR rfl <| qC rfl rfl rfl rfl rfl <| qA rfl rfl rfl <| qN <| mwp_cond_t rfl (rfl) <| mwp_skip <| mwp_cond_t rfl (rfl) <| qR rfl <| qM rfl rfl rfl <| qF rfl rfl rfl fo30_0 <| qO rfl <| op_load_own (by simp [pr_len]) rfl rfl rfl ta25 rfl ?_
  refine wOps_op rfl (op_call rfl rfl rfl co39 (((num_writes id t n (by omega)).sl h hl _).mono ?_))
  rintro _ _ ⟨rfl, rfl⟩
  refine qN ?_
  exact ret_noneS (by simp) Tryz.results21 (by rw [pr_len]; exact Nat.le_refl _) (cls_pr hcl h.idl h.tl) ⟨rfl, rfl⟩
 ·
  obtain ⟨n, rfl⟩ : ∃ q : Nat, n = (q : Int) := ⟨n.toNat, by omega⟩
  refine mcalls_body Tryz.func21 rfl Tryz.ntmps21 (Nat.le_of_ble_eq_true rfl) ?_
  refine mwp_facts fun _ hcl => ?_
  rw [List.append_nil] at hcl
  have hlen' : s.length ≤ maxLen := by simp only [maxLen]; omega
  have hnb := numB_len10 9 s.length (by omega)
  refine mwp_seq <| qR rfl <| qB rfl rfl rfl rfl rfl <| qB rfl rfl rfl rfl rfl <| qN <| mwp_seq <| qR rfl <| qF rfl rfl rfl fo24_0 <| qO rfl <| op_load_own (by simp [pr_len]) rfl rfl rfl ta3 rfl ?_
  refine qN <| mwp_block <| mwp_seq <| mwp_seq <| qR rfl <| qC rfl rfl rfl rfl rfl <| qA rfl rfl rfl <| qN <| mwp_cond_f rfl (rfl) <| qR rfl <| qC rfl rfl rfl rfl rfl <| qA rfl rfl rfl <| qN <| mwp_cond_t rfl (rfl) <| qR rfl <| qM rfl rfl rfl <| qF rfl rfl rfl fo30_0 <| qO rfl <| op_load_own (by simp [pr_len]) rfl rfl rfl ta25 rfl ?_
  refine wOps_op rfl (op_call rfl rfl rfl co39 (((num_writes id t n (by omega)).sl h hl _).mono ?_))
  rintro _ _ ⟨rfl, rfl⟩
  refine qN ?_
  exact ret_noneS (by simp) Tryz.results21 (by rw [pr_len]; exact Nat.le_refl _) (cls_pr hcl h.idl h.tl) ⟨rfl, rfl⟩
 ·
  obtain ⟨n, rfl⟩ : ∃ q : Nat, n = (q : Int) := ⟨n.toNat, by omega⟩
  refine mcalls_body Tryz.func21 rfl Tryz.ntmps21 (Nat.le_of_ble_eq_true rfl) ?_
  refine mwp_facts fun _ hcl => ?_
  rw [List.append_nil] at hcl
  have hlen' : s.length ≤ maxLen := by simp only [maxLen]; omega
  have hnb := numB_len10 9 s.length (by omega)
  refine mwp_seq <| qR rfl <| qB rfl rfl rfl rfl rfl <| qB rfl rfl rfl rfl rfl <| qN <| mwp_seq <| qR rfl <| qF rfl rfl rfl fo24_0 <| qO rfl <| op_load_own (by simp [pr_len]) rfl rfl rfl ta3 rfl ?_
  refine qN <| mwp_block <| mwp_seq <| mwp_seq <| qR rfl <| qC rfl rfl rfl rfl rfl <| qA rfl rfl rfl <| qN <| mwp_cond_f rfl (rfl) <| qR rfl <| qC rfl rfl rfl rfl rfl <| qA rfl rfl rfl <| qN <| mwp_cond_f rfl (rfl) <| mwp_seq <| mwp_seq <| qR rfl <| qC rfl rfl rfl rfl rfl <| qA rfl rfl rfl <| qN <| mwp_cond_t rfl (rfl) <| mwp_skip <| mwp_cond_t rfl (rfl) <| mwp_seq ?_
  refine qR rfl <| qM rfl rfl rfl <| qF rfl rfl rfl fo30_2 <| qO rfl <| op_load_own (by simp [pr_len]) rfl rfl rfl ta26 rfl ?_
  refine qE rfl rfl Tryz.underlying26 rfl <| qO rfl <| op_convInt rfl Tryz.underlying3 Tryz.underlying25 rfl (wrap_u64 (by rw [List.length_map]; omega)) ?_
  rw [List.length_map]
  refine wOps_op rfl (op_call rfl rfl rfl co39 (((num_writes id t s.length (by omega)).sl h (by rw [flatB, if_pos rfl, rowB, List.length_append] at hl; omega) _).mono ?_))
  rintro _ _ ⟨rfl, rfl⟩
  refine qN <| mwp_seq <| qR rfl <| qF rfl rfl rfl fo30_2 <| qO rfl <| op_load_own (by simp [pr_len]) rfl rfl rfl ta26 rfl ?_
  refine qE rfl rfl Tryz.underlying26 rfl <| qM rfl rfl rfl <| qN <| mwp_block ?_
  show mwp _ _ _ _ _ _ _ (([] : MS) ++ (pr S id t (l ++ numB s.length) ++ [.cells (encS (.mk 3 ins)).cells, .cells (encV (.mk n m s c w)).cells]))
  refine mwp_loopK (α := Nat) [(0, _), (4, _), (5, _), (61, _), (62, _)] (fun i => [(63, .int .i64 (i : Int))]) (fun i => (pr S id t (l ++ numB s.length ++ (s.take i).flatMap textB) ++ [.cells (encS (.mk 3 ins)).cells, .cells (encV (.mk n m s c w)).cells])) (fun i => i ≤ s.length) (fun i => s.length - i) (0) (.keep rfl (.keep rfl (.keep rfl (.keep rfl (.keep rfl (.nil)))))) (.keep rfl (.nil)) (by omega) (by simp) ?_
  rintro i hi
  show mwp _ _ _ _ _ _ _ (pr S id t (l ++ numB s.length ++ (s.take i).flatMap textB) ++ [.cells (encS (.mk 3 ins)).cells, .cells (encV (.mk n m s c w)).cells])
  have hw := h.pr (l ++ numB s.length ++ (s.take i).flatMap textB)
  have hfl := flat_len hs0 i
  refine mwp_seq <| qR rfl <| qC rfl rfl rfl rfl rfl <| qN <| mwp_seq ?_
  refine mwp_cond_split rfl (fun h64 => ?_) (fun h64 => ?_)
  ·
   have hlt : i < s.length := by simpa using h64
   obtain ⟨x, hs⟩ : ∃ q_, s[i]? = some q_ := ⟨_, List.getElem?_eq_getElem hlt⟩
   refine mwp_skip <| mwp_seq <| mwp_block <| mwp_seq <| qR rfl <| qM rfl rfl rfl <| qO rfl <| op_indexAddr rfl Tryz.underlying26 sz9 (by decide) rfl rfl rfl (get_map hs) ?_
   refine qO rfl <| op_load_sptr rfl rfl ta9 rfl <| qA rfl rfl rfl <| qA rfl rfl rfl <| qN <| mwp_seq ?_
   have hx := hs0 x (List.mem_of_getElem? hs)
   have hxl := (numB_len (show x.length < 2097152 by omega)).2
   have hxt : (textB x).length = (numB x.length).length + x.length := by simp [textB]
   refine mwp_draw [5] [_, pr S id t (l ++ numB s.length ++ (s.take (i + 1)).flatMap textB) ++ [.cells (encS (.mk 3 ins)).cells, .cells (encV (.mk n m s c w)).cells]] mo (by decide) rfl rfl rfl rfl ?_
   refine dOps_op rfl rfl (.cons (op_move rfl rfl ⟨rfl, rfl⟩) (.cons (op_move rfl rfl ⟨rfl, rfl⟩) (.nil))) <| dOps_op rfl rfl (.cons (op_nilCheck rfl rfl rfl ⟨rfl, rfl⟩) (.cons (op_nilCheck rfl rfl rfl ⟨rfl, rfl⟩) (.nil))) <| dO rfl rfl rfl (op_fieldAddr_ref rfl rfl fo59_0 ⟨rfl, rfl⟩) <| dOps_op rfl rfl (.cons (op_move rfl rfl ⟨rfl, rfl⟩) (.cons (op_move rfl rfl ⟨rfl, rfl⟩) (.nil))) <| dOps_op rfl rfl (.cons (op_call rfl rfl rfl co16 (codeText_spec x (by omega) _)) .nil) ?_
   refine dOps_eff rfl rfl rfl rfl (op_call rfl rfl rfl co40 (((write_at hw (textB x) (by rw [flatB, if_pos rfl, rowB, List.length_append] at hl; simp only [List.length_append]; omega) _).mono fun v σ' hv => ⟨hv.1, hv.2.trans (by rw [pr_pr h, flat_take hs, ← List.append_assoc])⟩))) ?_
   refine dOps_nil <| mwp_seq <| qR rfl <| qF rfl rfl rfl fo24_0 <| qO rfl <| op_load_own (by simp [pr_len]) rfl rfl rfl ta3 rfl ?_
   refine qC rfl rfl rfl rfl rfl <| qN <| mwp_cond_f rfl (rfl) <| mwp_skip <| qR rfl <| qO rfl <| op_arith rfl rfl rfl rfl <| qM rfl rfl rfl <| qN ?_
   refine ⟨i + 1, by omega, by omega, rfl, (.keep rfl (.keep rfl (.keep rfl (.keep rfl (.keep rfl (.nil)))))), (.eq rfl (int_succ hlt hlen') (.nil))⟩
  ·
   have hge : i = s.length := by simp at h64; omega
   refine mwp_exit ?_
   exact ret_noneS (by simp) Tryz.results21 (by rw [pr_len]; exact Nat.le_refl _) (cls_pr hcl h.idl h.tl) ⟨rfl, by rw [hge, List.take_length, flatB, if_pos rfl, rowB, List.append_assoc]⟩
theorem op_boxT' {P : Program} {rd : Option Nat} {o : Oper} {env : Env} {K : MV → MS → Prop} {S L L' : MS} {t k : Nat} {x : Operand} {m : MV} (ho : o.op = .box t x) (hx : evo env x = some m) (hk : L.length = k) (hL : L ++ [.tcells t m.cells] = L') (h : K (.ref (S.length + k) 0) (S ++ L')) : OpWp P rd o env (S ++ L) K := by
 refine op_boxT ho hx ?_
 subst hk; subst hL
 rw [List.length_append, List.append_assoc]
 exact h
theorem bytes_spec (sc : Sch) (x : Val) (B : Bs) (hok : okV x) (hyes : (isF 16 sc && isVF sc x) = true) (hB : B ≠ []) (hBl : B.length ≤ 8000000) (hw : ∀ id t, Writes 21 id t [.ref id 0, encS sc, encV x] B) (S : MS) : MCalls Tryz.prog 7 [encS sc, encV x] S fun v σ' => v = .str (bs B) ∧ σ' = S := by
 obtain ⟨k, ins⟩ := sc
 obtain ⟨n, m, s, c, w⟩ := x
 refine mcalls_body Tryz.func7 rfl Tryz.ntmps7 (Nat.le_of_ble_eq_true rfl) ?_
 refine mwp_facts fun _ hcl => ?_
 rw [List.append_nil] at hcl
 refine mwp_seq <| qR rfl <| qB rfl rfl rfl rfl rfl <| qB rfl rfl rfl rfl rfl <| qA rfl rfl rfl <| qN <| mwp_seq <| mwp_seq <| qR rfl <| qL rfl rfl rfl rfl ta24 rfl <| qL rfl rfl rfl rfl ta30 rfl ?_
 refine wOps_op rfl (op_call rfl rfl rfl co20 ((valIs_spec (.mk k ins) (.mk n m s c w) hok _).mono ?_))
 rintro _ _ ⟨rfl, rfl⟩
 refine qO rfl <| op_not rfl rfl <| qN <| mwp_cond_f rfl (by rw [hyes]; rfl) ?_
 refine mwp_skip <| mwp_seq <| qR rfl <| qO rfl <| op_build rfl Tryz.underlying59 zm59 .nil (by kernel_rfl) ?_
 refine qO rfl <| op_boxT' (k := 2) rfl rfl rfl rfl <| qA rfl rfl rfl <| qN <| mwp_seq <| mwp_cellrowT 2 1 5 1 rfl rfl (Nat.le_refl _) rfl rfl ?_
 show mwp _ _ _ _ _ _ _ (S ++ [MObj.cells (encS (.mk k ins)).cells, MObj.cells (encV (.mk n m s c w)).cells, MObj.tcells 59 [.ptr0, .lst (some (S.length + 3)) 1 []], MObj.row 5 1 0])
 have hpa : PrAt (S ++ [MObj.cells (encS (.mk k ins)).cells, MObj.cells (encV (.mk n m s c w)).cells, MObj.tcells 59 [.ptr0, .lst (some (S.length + 3)) 1 []], MObj.row 5 1 0]) (S.length + 2) (S.length + 3) [] := ⟨by omega, ⟨_, .inl rfl, by rw [getElem?_own]; rfl⟩, by rw [getElem?_own]; rfl⟩
 have hpb := hpa.pr B
 obtain ⟨p, hp, hob0⟩ := hpb.ob
 have hrw := hpb.row
 have hob : (pr (S ++ [MObj.cells (encS (.mk k ins)).cells, MObj.cells (encV (.mk n m s c w)).cells, MObj.tcells 59 [.ptr0, .lst (some (S.length + 3)) 1 []], MObj.row 5 1 0]) (S.length + 2) (S.length + 3) B)[S.length + 2]? = some (.tcells 59 [.ref (S.length + 2) 0, .lst (some (S.length + 3)) 1 (B.map encY)]) := by
  unfold pr prO
  exact get_neO (by omega) (by rw [List.getElem?_set_self (by simp)])
 refine qR rfl <| qM rfl rfl rfl <| qL rfl rfl rfl rfl ta24 rfl <| qL rfl rfl rfl rfl ta30 rfl ?_
 refine wOps_op rfl (op_call rfl rfl rfl co21 ((hw (S.length + 2) (S.length + 3) [] (S ++ [MObj.cells (encS (.mk k ins)).cells, MObj.cells (encV (.mk n m s c w)).cells, MObj.tcells 59 [.ptr0, .lst (some (S.length + 3)) 1 []], MObj.row 5 1 0]) hpa (by simp only [List.length_nil]; omega)).mono ?_))
 rintro _ _ ⟨rfl, rfl⟩
 refine qN <| mwp_seq <| qR rfl <| qM rfl rfl rfl <| qO rfl <| op_nilCheck rfl rfl rfl <| qF rfl rfl rfl fo59_0 ?_
 refine wOps_op rfl (op_call rfl rfl rfl co22 ((string_spec (S.length + 2) (S.length + 3) B hB (by omega) _ hob hrw (by omega)).mono ?_))
 rintro _ _ ⟨rfl, rfl⟩
 refine qA rfl rfl rfl <| qN <| mwp_ret ?_
 have hE : (pr (S ++ [MObj.cells (encS (.mk k ins)).cells, MObj.cells (encV (.mk n m s c w)).cells, MObj.tcells 59 [.ptr0, .lst (some (S.length + 3)) 1 []], MObj.row 5 1 0]) (S.length + 2) (S.length + 3) B).set (S.length + 3) .gone = S ++ [.cells (encS (.mk k ins)).cells, .cells (encV (.mk n m s c w)).cells, prO (S.length + 2) (S.length + 3) B, .gone] := by
  unfold pr
  rw [List.set_set, set_own, set_own]
  rfl
 rw [hE]
 exact ret_tmp (.inr rfl) Tryz.results7 rfl (.refl _) (.str _) ⟨rfl, rfl⟩
end Go.Proofs.YthkikhggmbiffaaGreat
end
section
set_option linter.unusedVariables false
set_option linter.unusedSimpArgs false
set_option maxRecDepth 20000
set_option maxHeartbeats 400000
namespace Go.Proofs.YthkikhggmbiffaaGreat
open Go Go.MV Go.RowKit
def entB (E : Val → Bs) (p : Bs × Val) : Bs := textB p.1 ++ E p.2
def entsB (E : Val → Bs) (ps : List (Bs × Val)) : Bs := numB ps.length ++ ps.flatMap (entB E)
theorem ents_take {E : Val → Bs} {ps : List (Bs × Val)} {i : Nat} {p : Bs × Val} (h : ps[i]? = some p) : (ps.take (i + 1)).flatMap (entB E) = (ps.take i).flatMap (entB E) ++ textB p.1 ++ E p.2 := by
 rw [List.take_add_one, h, List.flatMap_append]
 simp [entB]
theorem ents_le {E : Val → Bs} {ps : List (Bs × Val)} {i : Nat} {p : Bs × Val} (h : ps[i]? = some p) : ((ps.take i).flatMap (entB E)).length + (textB p.1).length + (E p.2).length ≤ (ps.flatMap (entB E)).length := by
 have h1 : (ps.take (i + 1)).flatMap (entB E) ++ (ps.drop (i + 1)).flatMap (entB E) = ps.flatMap (entB E) := by rw [← List.flatMap_append, List.take_append_drop]
 have h2 := congrArg List.length h1
 rw [ents_take h] at h2
 simp only [List.length_append] at h2
 omega
theorem map_writes (k1 : Int) (i1 : List Sch) (E : Val → Bs) (n m : Int) (c : List (List Tk)) (ps : List (Bs × Val)) (id t : Nat) (hpl : ps.length ≤ 1000) (hps : ∀ p ∈ ps, p.1.length ≤ 1000) (hE : ∀ p ∈ ps, Writes 21 id t [.ref id 0, encS (.mk k1 i1), encV p.2] (E p.2)) : Writes 21 id t [.ref id 0, encS (.mk 4 [.mk k1 i1]), encV (.mk n m (ps.map Prod.fst) c (ps.map Prod.snd))] (entsB E ps) := by
 intro l S h hl
 refine mcalls_body Tryz.func21 rfl Tryz.ntmps21 (Nat.le_of_ble_eq_true rfl) ?_
 refine mwp_facts fun _ hcl => ?_
 rw [List.append_nil] at hcl
 have hlen' : ps.length ≤ maxLen := by simp only [maxLen]; omega
 have hnb := numB_len10 9 ps.length (by omega)
 rw [entsB, List.length_append] at hl
 refine mwp_seq <| qR rfl <| qB rfl rfl rfl rfl rfl <| qB rfl rfl rfl rfl rfl <| qN <| mwp_seq <| qR rfl <| qF rfl rfl rfl fo24_0 <| qO rfl <| op_load_own (by simp [pr_len]) rfl rfl rfl ta3 rfl ?_
 refine qN <| mwp_block <| mwp_seq <| mwp_seq <| qR rfl <| qC rfl rfl rfl rfl rfl <| qA rfl rfl rfl <| qN <| mwp_cond_f rfl (rfl) <| qR rfl <| qC rfl rfl rfl rfl rfl <| qA rfl rfl rfl <| qN <| mwp_cond_f rfl (rfl) <| mwp_seq <| mwp_seq <| qR rfl <| qC rfl rfl rfl rfl rfl <| qA rfl rfl rfl <| qN <| mwp_cond_f rfl (rfl) <| qR rfl <| qC rfl rfl rfl rfl rfl ?_
 refine qA rfl rfl rfl <| qN <| mwp_cond_t rfl (rfl) <| mwp_seq <| qR rfl <| qM rfl rfl rfl <| qF rfl rfl rfl fo30_2 <| qO rfl <| op_load_own (by simp [pr_len]) rfl rfl rfl ta26 rfl ?_
 refine qE rfl rfl Tryz.underlying26 rfl <| qO rfl <| op_convInt rfl Tryz.underlying3 Tryz.underlying25 rfl (wrap_u64 (by rw [List.length_map, List.length_map]; omega)) ?_
 rw [List.length_map, List.length_map]
 refine wOps_op rfl (op_call rfl rfl rfl co39 (((num_writes id t ps.length (by omega)).sl h (by omega) _).mono ?_))
 rintro _ _ ⟨rfl, rfl⟩
 refine qN <| mwp_seq <| qR rfl <| qF rfl rfl rfl fo30_2 <| qO rfl <| op_load_own (by simp [pr_len]) rfl rfl rfl ta26 rfl ?_
 refine qE rfl rfl Tryz.underlying26 rfl <| qM rfl rfl rfl <| qN <| mwp_block ?_
 show mwp _ _ _ _ _ _ _ (([] : MS) ++ (pr S id t (l ++ numB ps.length) ++ [.cells (encS (.mk 4 [.mk k1 i1])).cells, .cells (encV (.mk n m (ps.map Prod.fst) c (ps.map Prod.snd))).cells]))
 refine mwp_loopK (α := Nat) [(0, _), (4, _), (5, _), (61, _), (62, _)] (fun i => [(63, .int .i64 (i : Int))]) (fun i => (pr S id t (l ++ numB ps.length ++ (ps.take i).flatMap (entB E)) ++ [.cells (encS (.mk 4 [.mk k1 i1])).cells, .cells (encV (.mk n m (ps.map Prod.fst) c (ps.map Prod.snd))).cells])) (fun i => i ≤ ps.length) (fun i => ps.length - i) (0) (.keep rfl (.keep rfl (.keep rfl (.keep rfl (.keep rfl (.nil)))))) (.keep rfl (.nil)) (by omega) (by simp) ?_
 rintro i hi
 show mwp _ _ _ _ _ _ _ (pr S id t (l ++ numB ps.length ++ (ps.take i).flatMap (entB E)) ++ [.cells (encS (.mk 4 [.mk k1 i1])).cells, .cells (encV (.mk n m (ps.map Prod.fst) c (ps.map Prod.snd))).cells])
 have hw := h.pr (l ++ numB ps.length ++ (ps.take i).flatMap (entB E))
 refine mwp_seq <| qR rfl <| qC rfl rfl rfl rfl rfl <| qN <| mwp_seq ?_
 refine mwp_cond_split rfl (fun h64 => ?_) (fun h64 => ?_)
 ·
  rw [List.length_map, List.length_map] at h64
  have hlt : i < ps.length := by simpa using h64
  obtain ⟨⟨x, ⟨n9, m9, s9, c9, w9⟩⟩, hs⟩ : ∃ q_, ps[i]? = some q_ := ⟨_, List.getElem?_eq_getElem hlt⟩
  have hpm := List.mem_of_getElem? hs
  have hx := hps _ hpm
  dsimp only at hx
  have hle := ents_le (E := E) hs
  dsimp only at hle
  have hxl := (numB_len (show x.length < 2097152 by omega)).2
  have hxt : (textB x).length = (numB x.length).length + x.length := by simp [textB]
  have hgx : ((ps.map Prod.fst).map encX)[i]? = some (encX x) := by rw [List.getElem?_map, List.getElem?_map, hs]; rfl
  have hgw : (encVs (ps.map Prod.snd))[i]? = some (encV (.mk n9 m9 s9 c9 w9)) := by rw [encVs_eq, List.getElem?_map, List.getElem?_map, hs]; rfl
  refine mwp_skip <| mwp_seq <| mwp_block <| mwp_seq <| qR rfl <| qM rfl rfl rfl <| qO rfl <| op_indexAddr rfl Tryz.underlying26 sz9 (by decide) rfl rfl rfl hgx ?_
  refine qO rfl <| op_load_sptr rfl rfl ta9 rfl <| qA rfl rfl rfl <| qA rfl rfl rfl <| qN <| mwp_seq ?_
  refine mwp_draw [5] [_, pr S id t (l ++ numB ps.length ++ (ps.take i).flatMap (entB E) ++ textB x) ++ [.cells (encS (.mk 4 [.mk k1 i1])).cells, .cells (encV (.mk n m (ps.map Prod.fst) c (ps.map Prod.snd))).cells]] mo (by decide) rfl rfl rfl rfl ?_
  refine dOps_op rfl rfl (.cons (op_move rfl rfl ⟨rfl, rfl⟩) (.cons (op_move rfl rfl ⟨rfl, rfl⟩) (.nil))) <| dOps_op rfl rfl (.cons (op_nilCheck rfl rfl rfl ⟨rfl, rfl⟩) (.cons (op_nilCheck rfl rfl rfl ⟨rfl, rfl⟩) (.nil))) <| dO rfl rfl rfl (op_fieldAddr_ref rfl rfl fo59_0 ⟨rfl, rfl⟩) <| dOps_op rfl rfl (.cons (op_move rfl rfl ⟨rfl, rfl⟩) (.cons (op_move rfl rfl ⟨rfl, rfl⟩) (.nil))) <| dOps_op rfl rfl (.cons (op_call rfl rfl rfl co16 (codeText_spec x (by omega) _)) .nil) ?_
  refine dOps_eff rfl rfl rfl rfl (op_call rfl rfl rfl co40 (((write_at hw (textB x) (by simp only [List.length_append]; omega) _).mono fun v σ' hv => ⟨hv.1, hv.2.trans (by rw [pr_pr h])⟩))) ?_
  refine dOps_nil <| mwp_seq <| qR rfl <| qF rfl rfl rfl fo24_0 <| qO rfl <| op_load_own (by simp [pr_len]) rfl rfl rfl ta3 rfl ?_
  refine qC rfl rfl rfl rfl rfl <| qN <| mwp_cond_t rfl (rfl) ?_
  refine mwp_draw [10] [_, pr S id t (l ++ numB ps.length ++ (ps.take i).flatMap (entB E) ++ textB x ++ E (.mk n9 m9 s9 c9 w9)) ++ [.cells (encS (.mk 4 [.mk k1 i1])).cells, .cells (encV (.mk n m (ps.map Prod.fst) c (ps.map Prod.snd))).cells]] mo (by decide) rfl rfl rfl rfl ?_
  refine dO rfl rfl rfl (op_move rfl rfl ⟨rfl, rfl⟩) <| dOps_op rfl rfl (.cons (op_fieldAddr_ref rfl rfl fo24_1 ⟨rfl, rfl⟩) (.cons (op_fieldAddr_ref rfl rfl fo24_1 ⟨rfl, rfl⟩) (.nil))) <| dOps_op rfl rfl (.cons (op_load_own (by simp [pr_len]) rfl rfl rfl ta22 rfl ⟨rfl, rfl⟩) (.cons (op_load_own (by simp [pr_len]) rfl rfl rfl ta22 rfl ⟨rfl, rfl⟩) (.nil))) ?_
  refine dOps_op rfl rfl (.cons (op_indexAddr rfl Tryz.underlying22 sz24 (by decide) rfl rfl rfl (show _ = some (encS (.mk k1 i1)) from rfl) ⟨rfl, rfl⟩) (.cons (op_indexAddr rfl Tryz.underlying22 sz24 (by decide) rfl rfl rfl (show _ = some (encS (.mk k1 i1)) from rfl) ⟨rfl, rfl⟩) (.nil))) ?_
  refine dO rfl rfl rfl (op_load_sptr rfl rfl ta24 rfl ⟨rfl, rfl⟩) <| dOps_op rfl rfl (.cons (op_fieldAddr_ref rfl rfl fo30_4 ⟨rfl, rfl⟩) (.cons (op_fieldAddr_ref rfl rfl fo30_4 ⟨rfl, rfl⟩) (.nil))) <| dOps_op rfl rfl (.cons (op_load_own (by simp [pr_len]) rfl rfl rfl ta28 rfl ⟨rfl, rfl⟩) (.cons (op_load_own (by simp [pr_len]) rfl rfl rfl ta28 rfl ⟨rfl, rfl⟩) (.nil))) ?_
  refine dOps_op rfl rfl (.cons (op_move rfl rfl ⟨rfl, rfl⟩) (.cons (op_move rfl rfl ⟨rfl, rfl⟩) (.nil))) <| dOps_op rfl rfl (.cons (op_indexAddr rfl Tryz.underlying28 sz30 (by decide) rfl rfl rfl hgw ⟨rfl, rfl⟩) (.cons (op_indexAddr rfl Tryz.underlying28 sz30 (by decide) rfl rfl rfl hgw ⟨rfl, rfl⟩) (.nil))) ?_
  refine dO rfl rfl rfl (op_load_sptr rfl rfl ta30 rfl ⟨rfl, rfl⟩) ?_
  refine dOps_eff rfl rfl rfl rfl (op_call rfl rfl rfl co21 ((((hE _ hpm).sl (h.pr (l ++ numB ps.length ++ (ps.take i).flatMap (entB E) ++ textB x)) (by simp only [List.length_append]; omega) _).mono fun v σ' hv => ⟨hv.1, hv.2.trans (by rw [pr_pr h])⟩))) ?_
  refine dOps_nil <| qR rfl <| qO rfl <| op_arith rfl rfl rfl rfl <| qM rfl rfl rfl <| qN ?_
  refine ⟨i + 1, by omega, by omega, by rw [ents_take hs]; simp only [List.append_assoc, List.nil_append], (.keep rfl (.keep rfl (.keep rfl (.keep rfl (.keep rfl (.nil)))))), (.eq rfl (int_succ hlt hlen') (.nil))⟩
 ·
  rw [List.length_map, List.length_map] at h64
  have hge : i = ps.length := by simp at h64; omega
  refine mwp_exit ?_
  exact ret_noneS (by simp) Tryz.results21 (by rw [pr_len]; exact Nat.le_refl _) (cls_pr hcl h.idl h.tl) ⟨rfl, by rw [hge, List.take_length, entsB, List.append_assoc]⟩
end Go.Proofs.YthkikhggmbiffaaGreat
end
section
set_option linter.unusedVariables false
set_option linter.unusedSimpArgs false
set_option maxRecDepth 20000
set_option maxHeartbeats 400000
namespace Go.Proofs.YthkikhggmbiffaaGreat
open Go Go.MV Go.RowKit
mutual
def schB : Sch → Bs
 | .mk k ins => numB k.toNat ++ schBs ins
def schBs : List Sch → Bs
 | [] => []
 | s :: l => schB s ++ schBs l
end
theorem schBs_eq : ∀ l : List Sch, schBs l = l.flatMap schB
 | [] => by simp [schBs]
 | s :: l => by simp [schBs, schBs_eq l]
theorem schBs_succ {l : List Sch} {i : Nat} {s : Sch} (h : l[i]? = some s) : schBs (l.take (i + 1)) = schBs (l.take i) ++ schB s := by
 rw [schBs_eq, schBs_eq, List.take_add_one, h, List.flatMap_append]
 simp
theorem k8_nat {k : Int} {m : Nat} (h : partsF k = (m : Int)) : ∃ q : Nat, k = (q : Int) ∧ 1 ≤ q ∧ q ≤ 8 ∧ m ≤ 2 := by
 rcases k8_of h with rfl | rfl | rfl | rfl | rfl | rfl | rfl | rfl
 all_goals (refine ⟨_, rfl, by decide, by decide, ?_⟩; simp [partsF] at h; try omega)
theorem schB_len : ∀ (d : Nat) (s : Sch), isF d s = true → (schB s).length < 2 ^ d
 | 0, s, h => by simp [isF] at h
 | d + 1, .mk k ins, h => by
  rw [isF] at h
  simp only [Bool.and_eq_true, List.all_eq_true, beq_iff_eq] at h
  obtain ⟨q, rfl, h1, h8, hm⟩ := k8_nat h.1
  have hq : (numB q).length = 1 := by rw [numB_lo (by omega), List.length_singleton]
  have hp : 2 ^ (d + 1) = 2 ^ d + 2 ^ d := by rw [Nat.pow_succ]; omega
  rw [schB, List.length_append, show ((q : Int)).toNat = q from rfl, hq]
  match ins, h.2, hm with
  | [], _, _ => have := Nat.two_pow_pos d; simp only [schBs, List.length_nil]; omega
  | [a], ha, _ => have := schB_len d a (ha a (by simp)); simp only [schBs, List.length_append, List.length_nil]; omega
  | [a, b], ha, _ => have h1 := schB_len d a (ha a (by simp)); have h2 := schB_len d b (ha b (by simp)); simp only [schBs, List.length_append, List.length_nil]; omega
theorem schBs_take_len {d : Nat} {l : List Sch} (h : ∀ x ∈ l, isF d x = true) (i : Nat) : (schBs (l.take i)).length ≤ l.length * 2 ^ d := by
 induction i with
 | zero => simp [schBs]
 | succ i _ =>
  have : ∀ m : List Sch, (∀ x ∈ m, isF d x = true) → (schBs m).length ≤ m.length * 2 ^ d := by
   intro m
   induction m with
   | nil => intro _; simp [schBs]
   | cons a m ih =>
    intro hm
    have h1 := schB_len d a (hm a (.head _))
    have h2 := ih fun x hx => hm x (.tail _ hx)
    rw [schBs, List.length_append, List.length_cons, Nat.succ_mul]
    omega
  refine Nat.le_trans (this _ fun x hx => h x (List.mem_of_mem_take hx)) (Nat.mul_le_mul_right _ ?_)
  rw [List.length_take]
  exact Nat.min_le_right _ _
theorem inner_spec (d : Nat) : d ≤ 16 → ∀ (s : Sch), isF d s = true → ∀ S : MS, MCalls Tryz.prog 24 [encS s] S fun v σ' => v = .str (bs (schB s)) ∧ σ' = S := by
 induction d with
 | zero => intro _ s h; simp [isF] at h
 | succ d ih =>
 rintro hd ⟨k, ins⟩ hs0 S
 rw [isF] at hs0
 simp only [Bool.and_eq_true, List.all_eq_true, beq_iff_eq] at hs0
 obtain ⟨q, rfl, h1, h8, hm2⟩ := k8_nat hs0.1
 have hlen' : ins.length ≤ maxLen := by simp only [maxLen]; omega
 have hq : (numB q).length = 1 := by rw [numB_lo (by omega), List.length_singleton]
 have hpow : 2 ^ d ≤ 65536 := Nat.pow_le_pow_right (by omega) (show d ≤ 16 by omega)
 refine mcalls_body Tryz.func24 rfl Tryz.ntmps24 (Nat.le_of_ble_eq_true rfl) ?_
 refine mwp_seq <| qR rfl <| qB rfl rfl rfl rfl rfl <| qA rfl rfl rfl <| qN <| mwp_seq <| qR rfl <| qF rfl rfl rfl fo24_0 <| qL rfl rfl rfl rfl ta3 rfl <| qO rfl <| op_convInt rfl Tryz.underlying3 Tryz.underlying25 rfl (wrap_u64 (by omega)) ?_
 refine wOps_op rfl (op_call rfl rfl rfl co15 ((codeNum_spec q (by omega) (by omega) _).mono ?_))
 rintro _ _ ⟨rfl, rfl⟩
 refine qA rfl rfl rfl <| qN <| mwp_seq <| mwp_seq <| qR rfl <| qF rfl rfl rfl fo24_1 <| qL rfl rfl rfl rfl ta22 rfl <| qE rfl rfl Tryz.underlying22 rfl <| qM rfl rfl rfl <| qN <| mwp_block ?_
 refine mwp_loopKJ (α := Nat) [(11, _), (12, _)] (fun i => [(3, .str (bs (numB q ++ schBs (ins.take i)))), (13, .int .i64 (i : Int))]) (fun i => [.cells (encS (.mk (q : Int) ins)).cells]) (fun i => i ≤ ins.length) (fun i => ins.length - i) (0) (Nat.le_refl _) (.keep rfl (.keep rfl (.nil))) (.eq rfl (by simp [schBs]) (.keep rfl (.nil))) (by omega) (rfl) ?_
 rintro i hi
 refine mwp_seq <| qR rfl <| qC rfl rfl rfl rfl rfl <| qN <| mwp_seq ?_
 refine mwp_cond_split rfl (fun h14 => ?_) (fun h14 => ?_)
 ·
  rw [encSs_length] at h14
  have hlt : i < ins.length := by simpa using h14
  obtain ⟨⟨k1, i1⟩, hs⟩ : ∃ q_, ins[i]? = some q_ := ⟨_, List.getElem?_eq_getElem hlt⟩
  have hl1 := schB_len d _ (hs0.2 _ (List.mem_of_getElem? hs))
  have hl2 := schBs_take_len hs0.2 i
  have hl3 := Nat.mul_le_mul_right (2 ^ d) hm2
  refine mwp_skip <| mwp_seq <| mwp_block <| mwp_seq <| qR rfl <| qO rfl <| op_indexAddr rfl Tryz.underlying22 sz24 (by decide) rfl rfl rfl (encSs_get hs) ?_
  refine qO rfl <| op_load_sptr rfl rfl ta24 rfl <| qO rfl <| op_alloc' rfl zm24 rfl rfl <| qO rfl <| op_store' rfl rfl rfl rfl sz24 rfl rfl (Nat.le_of_ble_eq_true rfl) rfl <| qN <| qR rfl <| qM rfl rfl rfl <| qL rfl rfl rfl rfl ta24 rfl ?_
  refine wOps_op rfl (op_call rfl rfl rfl co24 ((ih (by omega) (.mk k1 i1) (hs0.2 _ (List.mem_of_getElem? hs)) _).mono ?_))
  rintro _ _ ⟨rfl, rfl⟩
  refine qO rfl <| op_strcat rfl rfl rfl (by simp only [List.length_append]; omega) ?_
  refine qA rfl rfl rfl <| qN <| qR rfl <| qO rfl <| op_arith rfl rfl rfl rfl <| qM rfl rfl rfl <| qN ?_
  refine ⟨i + 1, _, by omega, by omega, rfl, .refl _ _, (.old rfl rfl (.old rfl rfl (.nil))), (.new' rfl (by rw [schBs_succ hs, List.append_assoc]) (.str _) (.new' rfl (int_succ hlt hlen') (.int _ _) (.nil)))⟩
 ·
  rw [encSs_length] at h14
  have hge : i = ins.length := by simp at h14; omega
  refine mwp_exit <| mwp_seq <| qR rfl <| qM rfl rfl rfl <| qA rfl rfl rfl <| qN <| mwp_ret ?_
  exact ret_tmp (.inr rfl) Tryz.results24 rfl (.of_eq (by rw [hge, List.take_length]; rfl)) (.str _) ⟨rfl, rfl⟩
theorem schema_spec (s : Sch) (h : isF 16 s = true) (S : MS) : MCalls Tryz.prog 8 [encS s] S fun v σ' => v = .str (bs (schB s)) ∧ σ' = S := by
 obtain ⟨k, ins⟩ := s
 refine mcalls_body Tryz.func8 rfl Tryz.ntmps8 (Nat.le_of_ble_eq_true rfl) ?_
 refine mwp_seq <| qR rfl <| qB rfl rfl rfl rfl rfl <| qA rfl rfl rfl <| qN <| mwp_seq <| mwp_seq <| qR rfl <| qL rfl rfl rfl rfl ta24 rfl ?_
 refine wOps_op rfl (op_call rfl rfl rfl co23 ((Is_spec (.mk k ins) _).mono ?_))
 rintro _ _ ⟨rfl, rfl⟩
 refine qO rfl <| op_not rfl rfl <| qN <| mwp_cond_f rfl (by rw [h]; rfl) ?_
 refine mwp_skip <| mwp_seq <| qR rfl <| qL rfl rfl rfl rfl ta24 rfl ?_
 refine wOps_op rfl (op_call rfl rfl rfl co24 ((inner_spec 16 (by omega) (.mk k ins) h _).mono ?_))
 rintro _ _ ⟨rfl, rfl⟩
 refine qA rfl rfl rfl <| qN <| mwp_ret ?_
 exact ret_tmp (.inr rfl) Tryz.results8 rfl (.of_eq (rfl)) (.str _) ⟨rfl, rfl⟩
end Go.Proofs.YthkikhggmbiffaaGreat
end
section
set_option linter.unusedVariables false
set_option linter.unusedSimpArgs false
set_option maxRecDepth 20000
set_option maxHeartbeats 400000
namespace Go.Proofs.YthkikhggmbiffaaGreat
open Go Go.MV Go.RowKit
theorem ret_ctt {P : Program} {fn : Func} {S L : MS} {R : MV → MS → Prop} {env : Env} {e : Exit} {a t k off t2 t3 : Nat} {l : List MV} {ta : Option Nat} {x y x2 y2 x3 y3 : MV} (he : e = .normal ∨ e = .ret) (hres : fn.results = #[.cell a t, .tmp t2, .tmp t3]) (ha : get env a = some (.ref (S.length + k) off)) (hl : L[k]? = some (.cells l)) (ht : tyAgg P t = some ta) (hm : loadMV ta l off = some x) (hs : Sub x y) (hc : Cl S.length y)
  (hx2 : get env t2 = some x2) (hs2 : Sub x2 y2) (hc2 : Cl S.length y2) (hx3 : get env t3 = some x3) (hs3 : Sub x3 y3) (hc3 : Cl S.length y3) (hR : R (.tup [y, y2, y3]) S) : BodyQ P fn S R e env (S ++ L) := by
 refine ⟨he, [x, x2, x3], .tup [y, y2, y3], S, L, ?_, .tup (.cons hs (.cons hs2 (.cons hs3 .nil))), .tup _ (fun z hz => ?_), rfl, Nat.le_refl _, .inl rfl, hR⟩
 ·rw [hres]
  exact .cell ha (by rw [getElem?_own]; exact hl) ht hm (.tmp hx2 (.tmp hx3 .nil))
 ·simp only [List.mem_cons, List.not_mem_nil, or_false] at hz
  rcases hz with rfl | rfl | rfl
  ·exact hc
  ·exact hc2
  ·exact hc3
theorem fails0 (id : Nat) (r : RdS) (S : MS) (h : S[id]? = some (rdO r)) (x : Int) : MCalls Tryz.prog 26 [.ref id 0, .int .i64 x] S fun v σ' => v = .tup [] ∧ σ' = S.set id (rdO (failR x r)) := by
 have := fails_spec id r S [] h x
 rw [List.append_nil] at this
 refine this.mono fun v σ' hv => ⟨hv.1, ?_⟩
 rw [hv.2, List.append_nil]
theorem cl_ER (n : Nat) (k : Int) : Cl n (.iface 45 (.int .i64 k)) := .iface _ _ (.int _ _)
theorem schR_leaf (deep : Int) (hd : 0 < deep) (id : Nat) (b rest : Bs) (S : MS) (h : S[id]? = some (rdO (b, none))) (hlen : b.length ≤ 1000000) (hn : numM (b, none) = (3, (rest, none))) : MCalls Tryz.prog 27 [.ref id 0, .int .i64 deep] S fun v σ' => v = encS (.mk 3 []) ∧ σ' = S.set id (rdO (rest, none)) := by
 refine mcalls_body Tryz.func27 rfl Tryz.ntmps27 (Nat.le_of_ble_eq_true rfl) ?_
 refine mwp_facts fun _ hcl => ?_
 rw [List.append_nil] at hcl
 refine mwp_seq <| qR rfl <| qO rfl <| op_alloc' rfl zm24 rfl rfl <| qN <| mwp_seq <| mwp_seq <| qR rfl <| qM rfl rfl rfl <| qC rfl rfl rfl rfl rfl <| qN <| mwp_cond_f rfl (decide_eq_false (by omega)) ?_
 refine mwp_skip <| mwp_seq <| qR rfl <| qM rfl rfl rfl ?_
 refine wOps_op rfl (op_call rfl rfl rfl co44 (((num_reads id).sl h hlen).mono ?_))
 rintro _ _ ⟨rfl, rfl⟩
 rw [hn]
 dsimp only
 refine qO rfl <| op_min2' rfl rfl rfl ((by decide : (if (65536 : Int) < ((3 : Nat) : Int) then (65536 : Int) else ((3 : Nat) : Int)) = 3)) ?_
 refine qO rfl <| op_convInt rfl Tryz.underlying25 Tryz.underlying3 rfl ((by decide : IntKind.i64.wrap 3 = 3)) ?_
 refine qO rfl <| op_build rfl Tryz.underlying24 zm24 (.cons fo24_0 sz3 rfl rfl (Nat.le_of_ble_eq_true rfl) .nil) (by kernel_rfl) ?_
 refine qO rfl <| op_alloc' rfl zm24 rfl rfl <| qO rfl <| op_store_own (by simp) rfl rfl rfl rfl sz24 rfl rfl (Nat.le_of_ble_eq_true rfl) rfl ?_
 refine qN <| mwp_seq <| qR rfl <| qA rfl rfl rfl <| qN <| mwp_seq <| mwp_seq <| qR rfl <| qF rfl rfl rfl fo24_0 <| qO rfl <| op_load_own (by simp) rfl rfl rfl ta3 rfl ?_
 refine qN <| mwp_block <| mwp_seq <| mwp_seq <| qR rfl <| qC rfl rfl rfl rfl rfl <| qA rfl rfl rfl <| qN <| mwp_cond_f rfl (rfl) <| mwp_seq <| qR rfl <| qC rfl rfl rfl rfl rfl <| qA rfl rfl rfl <| qN <| mwp_cond_f rfl (rfl) <| mwp_seq <| qR rfl <| qC rfl rfl rfl rfl rfl <| qA rfl rfl rfl <| qN <| mwp_cond_t rfl (rfl) <| mwp_skip <| mwp_cond_t rfl (rfl) <| mwp_skip ?_
 refine mwp_seq <| mwp_seq <| qR rfl <| qM rfl rfl rfl <| qM rfl rfl rfl <| qN <| mwp_block ?_
 refine mwp_loopK (α := Nat) [(0, _), (1, _), (4, _), (5, _), (31, _)] (fun i => [(32, .int .i64 (0 : Int))]) (fun i => [.cells [.int .i64 0, .lst0], .cells [.int .i64 3, .lst0]]) (fun i => True) (fun i => 0) (0) (.keep rfl (.keep rfl (.keep rfl (.keep rfl (.keep rfl (.nil)))))) (.keep rfl (.nil)) (trivial) (rfl) ?_
 rintro i _
 refine mwp_seq <| qR rfl <| qC rfl rfl rfl rfl rfl <| qN <| mwp_seq <| mwp_cond_f rfl (rfl) <| mwp_exit <| mwp_seq <| qR rfl <| qO rfl <| op_load_own (by simp) rfl rfl rfl ta24 rfl ?_
 refine qO rfl <| op_store_own (by simp) rfl rfl rfl rfl sz24 rfl rfl (Nat.le_of_ble_eq_true rfl) rfl ?_
 refine qN <| mwp_ret ?_
 exact ret_cellS (y := encS (.mk 3 [])) (by simp) (.inr rfl) Tryz.results27 rfl rfl ta24 rfl (.agg (.cons (.refl _) (.cons (.nil 2) .nil))) (cl_encS _ _) (hcl.set (rd_cl _ _)) ⟨rfl, rfl⟩
theorem schR_short (deep : Int) (hd : 0 < deep) (id : Nat) (b : Bs) (S : MS) (h : S[id]? = some (rdO (b, none))) (hlen : b.length ≤ 1000000) (hn : numM (b, none) = (0, (b, some 11))) : MCalls Tryz.prog 27 [.ref id 0, .int .i64 deep] S fun v σ' => v = encS (.mk 0 []) ∧ σ' = S.set id (rdO (b, some 11)) := by
 refine mcalls_body Tryz.func27 rfl Tryz.ntmps27 (Nat.le_of_ble_eq_true rfl) ?_
 refine mwp_facts fun _ hcl => ?_
 rw [List.append_nil] at hcl
 refine mwp_seq <| qR rfl <| qO rfl <| op_alloc' rfl zm24 rfl rfl <| qN <| mwp_seq <| mwp_seq <| qR rfl <| qM rfl rfl rfl <| qC rfl rfl rfl rfl rfl <| qN <| mwp_cond_f rfl (decide_eq_false (by omega)) ?_
 refine mwp_skip <| mwp_seq <| qR rfl <| qM rfl rfl rfl ?_
 refine wOps_op rfl (op_call rfl rfl rfl co44 (((num_reads id).sl h hlen).mono ?_))
 rintro _ _ ⟨rfl, rfl⟩
 rw [hn]
 dsimp only
 refine qO rfl <| op_min2' rfl rfl rfl ((by decide : (if (65536 : Int) < ((0 : Nat) : Int) then (65536 : Int) else ((0 : Nat) : Int)) = 0)) ?_
 refine qO rfl <| op_convInt rfl Tryz.underlying25 Tryz.underlying3 rfl ((by decide : IntKind.i64.wrap 0 = 0)) ?_
 refine qO rfl <| op_build rfl Tryz.underlying24 zm24 (.cons fo24_0 sz3 rfl rfl (Nat.le_of_ble_eq_true rfl) .nil) (by kernel_rfl) ?_
 refine qO rfl <| op_alloc' rfl zm24 rfl rfl <| qO rfl <| op_store_own (by simp) rfl rfl rfl rfl sz24 rfl rfl (Nat.le_of_ble_eq_true rfl) rfl ?_
 refine qN <| mwp_seq <| qR rfl <| qA rfl rfl rfl <| qN <| mwp_seq <| mwp_seq <| qR rfl <| qF rfl rfl rfl fo24_0 <| qO rfl <| op_load_own (by simp) rfl rfl rfl ta3 rfl ?_
 refine qN <| mwp_block <| mwp_seq <| mwp_seq <| qR rfl <| qC rfl rfl rfl rfl rfl <| qA rfl rfl rfl <| qN <| mwp_cond_f rfl (rfl) <| mwp_seq <| qR rfl <| qC rfl rfl rfl rfl rfl <| qA rfl rfl rfl <| qN <| mwp_cond_f rfl (rfl) <| mwp_seq <| qR rfl <| qC rfl rfl rfl rfl rfl <| qA rfl rfl rfl <| qN <| mwp_cond_f rfl (rfl) <| mwp_seq <| qR rfl <| qC rfl rfl rfl rfl rfl ?_
 refine qA rfl rfl rfl <| qN <| mwp_cond_f rfl (rfl) <| qR rfl <| qC rfl rfl rfl rfl rfl <| qA rfl rfl rfl <| qN <| mwp_cond_f rfl (rfl) <| mwp_seq <| mwp_seq <| qR rfl <| qC rfl rfl rfl rfl rfl <| qA rfl rfl rfl <| qN <| mwp_cond_f rfl (rfl) <| qR rfl <| qC rfl rfl rfl rfl rfl <| qA rfl rfl rfl <| qN <| mwp_cond_f rfl (rfl) <| mwp_seq <| qR rfl <| qC rfl rfl rfl rfl rfl ?_
 refine qA rfl rfl rfl <| qN <| mwp_cond_f rfl (rfl) <| qR rfl <| qM rfl rfl rfl ?_
 refine wOps_op rfl (op_call rfl rfl rfl co26 ((fails_spec id (b, some 11) _ _ (get_set h) _).mono ?_))
 rintro _ _ ⟨rfl, rfl⟩
 rw [fail_err, set_set]
 refine qN <| mwp_seq <| mwp_seq <| qR rfl <| qM rfl rfl rfl <| qM rfl rfl rfl <| qN <| mwp_block ?_
 refine mwp_loopK (α := Nat) [(0, _), (1, _), (4, _), (5, _), (31, _)] (fun i => [(32, .int .i64 (0 : Int))]) (fun i => [.cells [.int .i64 0, .lst0], .cells [.int .i64 0, .lst0]]) (fun i => True) (fun i => 0) (0) (.keep rfl (.keep rfl (.keep rfl (.keep rfl (.keep rfl (.nil)))))) (.keep rfl (.nil)) (trivial) (rfl) ?_
 rintro i _
 refine mwp_seq <| qR rfl <| qC rfl rfl rfl rfl rfl <| qN <| mwp_seq <| mwp_cond_f rfl (rfl) <| mwp_exit <| mwp_seq <| qR rfl <| qO rfl <| op_load_own (by simp) rfl rfl rfl ta24 rfl ?_
 refine qO rfl <| op_store_own (by simp) rfl rfl rfl rfl sz24 rfl rfl (Nat.le_of_ble_eq_true rfl) rfl ?_
 refine qN <| mwp_ret ?_
 exact ret_cellS (y := encS (.mk 0 [])) (by simp) (.inr rfl) Tryz.results27 rfl rfl ta24 rfl (.agg (.cons (.refl _) (.cons (.nil 2) .nil))) (cl_encS _ _) (hcl.set (rd_cl _ _)) ⟨rfl, rfl⟩
theorem readS_leaf (b rest : Bs) (hlen : b.length ≤ 1000000) (hn : numM (b, none) = (3, (rest, none))) (S : MS) : MCalls Tryz.prog 10 [.str (bs b)] S fun v σ' => v = .tup [encS (.mk 3 []), .str (bs rest), .iface0] ∧ σ' = S := by
 refine mcalls_body Tryz.func10 rfl Tryz.ntmps10 (Nat.le_of_ble_eq_true rfl) ?_
 refine mwp_facts fun _ hcl => ?_
 rw [List.append_nil] at hcl
 refine mwp_seq <| qR rfl <| qO rfl <| op_alloc' rfl zm24 rfl rfl <| qA rfl rfl rfl <| qA rfl rfl rfl <| qN <| mwp_seq <| qR rfl <| qM rfl rfl rfl <| qO rfl <| op_build rfl Tryz.underlying64 zm64 (.cons fo64_0 sz9 rfl rfl (Nat.le_of_ble_eq_true rfl) .nil) (by kernel_rfl) ?_
 refine qB rfl rfl rfl rfl rfl <| qA rfl rfl rfl <| qN <| mwp_seq <| qR rfl ?_
 have hst : (S ++ [MObj.cells [.int .i64 0, .lst0], rdO (b, none)]).set (S.length + 1) (rdO (rest, none)) = S ++ [MObj.cells [.int .i64 0, .lst0], rdO (rest, none)] := by rw [set_own]; rfl
 refine qM rfl rfl rfl ?_
 refine wOps_op rfl (op_call rfl rfl rfl co27 (((schR_leaf 16 (by decide) (S.length + 1) b rest (S ++ [MObj.cells [.int .i64 0, .lst0], rdO (b, none)]) (by rw [getElem?_own]; rfl) hlen hn)).mono ?_))
 rintro _ _ ⟨rfl, rfl⟩
 rw [hst]
 refine qO rfl <| op_alloc' rfl zm24 rfl rfl <| qO rfl <| op_store' rfl rfl rfl rfl sz24 rfl rfl (Nat.le_of_ble_eq_true rfl) rfl <| qN <| mwp_seq <| mwp_seq <| qR rfl <| qM rfl rfl rfl <| qO rfl <| op_nilCheck rfl rfl rfl <| qF rfl rfl rfl fo64_1 <| qL rfl rfl rfl rfl ta37 rfl <| qO rfl <| op_if0 rfl Tryz.underlying37 rfl rfl (.inr ⟨rfl, rfl⟩) <| qN <| mwp_cond_f rfl (rfl) <| mwp_skip <| mwp_seq ?_
 refine mwp_draw [5] [_, S ++ [.cells [.int .i64 3, .lst none 2 []], rdO (rest, none), .cells [.int .i64 3, .lst none 2 []]]] mo (by decide) rfl rfl rfl rfl ?_
 refine dO rfl rfl rfl (op_load' rfl rfl rfl ta24 rfl ⟨rfl, rfl⟩) <| dOps_op rfl rfl (.cons (op_move rfl rfl ⟨rfl, rfl⟩) (.cons (op_move rfl rfl ⟨rfl, rfl⟩) (.nil))) <| dOps_op rfl rfl (.cons (op_nilCheck rfl rfl rfl ⟨rfl, rfl⟩) (.cons (op_nilCheck rfl rfl rfl ⟨rfl, rfl⟩) (.nil))) <| dOps_op rfl rfl (.cons (op_fieldAddr_ref rfl rfl fo64_0 ⟨rfl, rfl⟩) (.cons (op_fieldAddr_ref rfl rfl fo64_0 ⟨rfl, rfl⟩) (.nil))) <| dOps_op rfl rfl (.cons (op_load' rfl rfl rfl ta9 rfl ⟨rfl, rfl⟩) (.cons (op_load' rfl rfl rfl ta9 rfl ⟨rfl, rfl⟩) (.nil))) <| dOps_eff rfl rfl rfl rfl (op_store' rfl rfl rfl rfl sz24 rfl rfl (Nat.le_of_ble_eq_true rfl) rfl ⟨rfl, rfl⟩) <| dO rfl rfl rfl (op_assign rfl rfl ⟨rfl, rfl⟩) <| dO rfl rfl rfl (op_assign rfl rfl ⟨rfl, rfl⟩) <| dOps_nil <| mwp_ret ?_
 exact ret_ctt (y := encS (.mk 3 [])) (y2 := .str (bs rest)) (y3 := .iface0) (.inr rfl) Tryz.results10 rfl rfl ta24 rfl (.refl _) (cl_encS _ _) rfl (.refl _) (.str _) rfl (.refl _) .iface0 ⟨rfl, rfl⟩
theorem readS_short (b : Bs) (hlen : b.length ≤ 1000000) (hn : numM (b, none) = (0, (b, some 11))) (S : MS) : MCalls Tryz.prog 10 [.str (bs b)] S fun v σ' => v = .tup [encS (.mk 0 []), .str (bs b), (.iface 45 (.int .i64 11))] ∧ σ' = S := by
 refine mcalls_body Tryz.func10 rfl Tryz.ntmps10 (Nat.le_of_ble_eq_true rfl) ?_
 refine mwp_facts fun _ hcl => ?_
 rw [List.append_nil] at hcl
 refine mwp_seq <| qR rfl <| qO rfl <| op_alloc' rfl zm24 rfl rfl <| qA rfl rfl rfl <| qA rfl rfl rfl <| qN <| mwp_seq <| qR rfl <| qM rfl rfl rfl <| qO rfl <| op_build rfl Tryz.underlying64 zm64 (.cons fo64_0 sz9 rfl rfl (Nat.le_of_ble_eq_true rfl) .nil) (by kernel_rfl) ?_
 refine qB rfl rfl rfl rfl rfl <| qA rfl rfl rfl <| qN <| mwp_seq <| qR rfl ?_
 have hst : (S ++ [MObj.cells [.int .i64 0, .lst0], rdO (b, none)]).set (S.length + 1) (rdO (b, some 11)) = S ++ [MObj.cells [.int .i64 0, .lst0], rdO (b, some 11)] := by rw [set_own]; rfl
 refine qM rfl rfl rfl ?_
 refine wOps_op rfl (op_call rfl rfl rfl co27 (((schR_short 16 (by decide) (S.length + 1) b (S ++ [MObj.cells [.int .i64 0, .lst0], rdO (b, none)]) (by rw [getElem?_own]; rfl) hlen hn)).mono ?_))
 rintro _ _ ⟨rfl, rfl⟩
 rw [hst]
 refine qO rfl <| op_alloc' rfl zm24 rfl rfl <| qO rfl <| op_store' rfl rfl rfl rfl sz24 rfl rfl (Nat.le_of_ble_eq_true rfl) rfl <| qN <| mwp_seq <| mwp_seq <| qR rfl <| qM rfl rfl rfl <| qO rfl <| op_nilCheck rfl rfl rfl <| qF rfl rfl rfl fo64_1 <| qL rfl rfl rfl rfl ta37 rfl <| qO rfl <| op_ifnil rfl Tryz.underlying37 rfl rfl (.inr ⟨rfl, rfl⟩) <| qN <| mwp_cond_t rfl (rfl) <| mwp_seq ?_
 refine mwp_draw [6] [_, S ++ [.cells [.int .i64 0, .lst0], rdO (b, some 11), .cells [.int .i64 0, .lst none 2 []]]] mo (by decide) rfl rfl rfl rfl ?_
 refine dO rfl rfl rfl (op_build rfl Tryz.underlying24 zm24 .nil (by kernel_rfl) ⟨rfl, rfl⟩) ?_
 refine dOps_op rfl rfl (.cons (op_move rfl rfl ⟨rfl, rfl⟩) (.cons (op_move rfl rfl ⟨rfl, rfl⟩) (.nil))) <| dOps_op rfl rfl (.cons (op_move rfl rfl ⟨rfl, rfl⟩) (.cons (op_move rfl rfl ⟨rfl, rfl⟩) (.nil))) <| dOps_op rfl rfl (.cons (op_nilCheck rfl rfl rfl ⟨rfl, rfl⟩) (.cons (op_nilCheck rfl rfl rfl ⟨rfl, rfl⟩) (.nil))) <| dOps_op rfl rfl (.cons (op_fieldAddr_ref rfl rfl fo64_1 ⟨rfl, rfl⟩) (.cons (op_fieldAddr_ref rfl rfl fo64_1 ⟨rfl, rfl⟩) (.nil))) <| dOps_op rfl rfl (.cons (op_load' rfl rfl rfl ta37 rfl ⟨rfl, rfl⟩) (.cons (op_load' rfl rfl rfl ta37 rfl ⟨rfl, rfl⟩) (.nil))) <| dOps_eff rfl rfl rfl rfl (op_store' rfl rfl rfl rfl sz24 rfl rfl (Nat.le_of_ble_eq_true rfl) rfl ⟨rfl, rfl⟩) <| dO rfl rfl rfl (op_assign rfl rfl ⟨rfl, rfl⟩) <| dO rfl rfl rfl (op_assign rfl rfl ⟨rfl, rfl⟩) <| dOps_nil <| mwp_ret ?_
 exact ret_ctt (y := encS (.mk 0 [])) (y2 := .str (bs b)) (y3 := (.iface 45 (.int .i64 11))) (.inr rfl) Tryz.results10 rfl rfl ta24 rfl (.agg (.cons (.refl _) (.cons (.nil 2) .nil))) (cl_encS _ _) rfl (.refl _) (.str _) rfl (.refl _) (cl_ER _ _) ⟨rfl, rfl⟩
theorem read_good (k : Int) (ins : List Sch) (his : isF 16 (.mk k ins) = true) {M : RdS → Val × RdS} (hM : ∀ id, Reads 25 [.ref id 0, encS (.mk k ins)] id encV M) (b rest : Bs) (hlen : b.length ≤ 1000000) (n m : Int) (s : List Bs) (c : List (List Tk)) (w : List Val) (hm : M (b, none) = (.mk n m s c w, (rest, none))) (hok : okV (.mk n m s c w)) (hfit : (isF 16 (.mk k ins) && isVF (.mk k ins) (.mk n m s c w)) = true) (S : MS) : MCalls Tryz.prog 9 [encS (.mk k ins), .str (bs b)] S fun v σ' => v = .tup [encV (.mk n m s c w), .str (bs rest), .iface0] ∧ σ' = S := by
 refine mcalls_body Tryz.func9 rfl Tryz.ntmps9 (Nat.le_of_ble_eq_true rfl) ?_
 refine mwp_facts fun _ hcl => ?_
 rw [List.append_nil] at hcl
 refine mwp_seq <| qR rfl <| qB rfl rfl rfl rfl rfl <| qO rfl <| op_alloc' rfl zm30 rfl rfl <| qA rfl rfl rfl <| qA rfl rfl rfl <| qN <| mwp_seq <| mwp_seq <| qR rfl <| qL rfl rfl rfl rfl ta24 rfl ?_
 refine wOps_op rfl (op_call rfl rfl rfl co23 ((Is_spec (.mk k ins) _).mono ?_))
 rintro _ _ ⟨rfl, rfl⟩
 refine qO rfl <| op_not rfl rfl <| qN <| mwp_cond_f rfl (by rw [his]; rfl) ?_
 refine mwp_skip <| mwp_seq <| qR rfl <| qM rfl rfl rfl <| qO rfl <| op_build rfl Tryz.underlying64 zm64 (.cons fo64_0 sz9 rfl rfl (Nat.le_of_ble_eq_true rfl) .nil) (by kernel_rfl) ?_
 refine qB rfl rfl rfl rfl rfl <| qA rfl rfl rfl <| qN <| mwp_seq <| qR rfl ?_
 have hst : (S ++ [MObj.cells (encS (.mk k ins)).cells, MObj.cells [.int .u64 0, .int .u64 0, .lst0, .lst0, .lst0], rdO (b, none)]).set (S.length + 2) (rdO (rest, none)) = S ++ [MObj.cells (encS (.mk k ins)).cells, MObj.cells [.int .u64 0, .int .u64 0, .lst0, .lst0, .lst0], rdO (rest, none)] := by rw [set_own]; rfl
 refine qM rfl rfl rfl <| qL rfl rfl rfl rfl ta24 rfl ?_
 refine wOps_op rfl (op_call rfl rfl rfl co25 ((((hM (S.length + 2)) (b, none) (S ++ [MObj.cells (encS (.mk k ins)).cells, MObj.cells [.int .u64 0, .int .u64 0, .lst0, .lst0, .lst0], rdO (b, none)]) (by rw [getElem?_own]; rfl) hlen)).mono ?_))
 rintro _ _ ⟨rfl, rfl⟩
 rw [hm]
 dsimp only
 rw [hst]
 refine qO rfl <| op_alloc' rfl zm30 rfl rfl <| qO rfl <| op_store' rfl rfl rfl rfl sz30 rfl rfl (Nat.le_of_ble_eq_true rfl) rfl <| qN <| mwp_seq <| mwp_seq <| qR rfl <| qM rfl rfl rfl <| qO rfl <| op_nilCheck rfl rfl rfl <| qF rfl rfl rfl fo64_1 <| qL rfl rfl rfl rfl ta37 rfl <| qO rfl <| op_if0 rfl Tryz.underlying37 rfl rfl (.inl ⟨rfl, rfl⟩) <| qM rfl rfl rfl <| qL rfl rfl rfl rfl ta24 rfl <| qL rfl rfl rfl rfl ta30 rfl ?_
 refine wOps_op rfl (op_call rfl rfl rfl co20 ((valIs_spec (.mk k ins) (.mk n m s c w) hok _).mono ?_))
 rintro _ _ ⟨rfl, rfl⟩
 refine qO rfl <| op_not rfl rfl <| qP rfl rfl rfl rfl <| qN <| mwp_cond_f rfl (by rw [hfit]; rfl) ?_
 refine mwp_skip <| mwp_seq <| mwp_seq <| qR rfl <| qM rfl rfl rfl <| qO rfl <| op_nilCheck rfl rfl rfl <| qF rfl rfl rfl fo64_1 <| qL rfl rfl rfl rfl ta37 rfl <| qO rfl <| op_if0 rfl Tryz.underlying37 rfl rfl (.inr ⟨rfl, rfl⟩) <| qN <| mwp_cond_f rfl (rfl) <| mwp_skip <| mwp_seq ?_
 refine mwp_draw [5] [_, S ++ [.cells (encS (.mk k ins)).cells, .cells (encV (.mk n m s c w)).cells, rdO (rest, none), .cells (encV (.mk n m s c w)).cells]] mo (by decide) rfl rfl rfl rfl ?_
 refine dO rfl rfl rfl (op_load' rfl rfl rfl ta30 rfl ⟨rfl, rfl⟩) <| dOps_op rfl rfl (.cons (op_move rfl rfl ⟨rfl, rfl⟩) (.cons (op_move rfl rfl ⟨rfl, rfl⟩) (.nil))) <| dOps_op rfl rfl (.cons (op_nilCheck rfl rfl rfl ⟨rfl, rfl⟩) (.cons (op_nilCheck rfl rfl rfl ⟨rfl, rfl⟩) (.nil))) <| dOps_op rfl rfl (.cons (op_fieldAddr_ref rfl rfl fo64_0 ⟨rfl, rfl⟩) (.cons (op_fieldAddr_ref rfl rfl fo64_0 ⟨rfl, rfl⟩) (.nil))) <| dOps_op rfl rfl (.cons (op_load' rfl rfl rfl ta9 rfl ⟨rfl, rfl⟩) (.cons (op_load' rfl rfl rfl ta9 rfl ⟨rfl, rfl⟩) (.nil))) <| dOps_eff rfl rfl rfl rfl (op_store' rfl rfl rfl rfl sz30 rfl rfl (Nat.le_of_ble_eq_true rfl) rfl ⟨rfl, rfl⟩) <| dO rfl rfl rfl (op_assign rfl rfl ⟨rfl, rfl⟩) <| dO rfl rfl rfl (op_assign rfl rfl ⟨rfl, rfl⟩) <| dOps_nil <| mwp_ret ?_
 exact ret_ctt (y := encV (.mk n m s c w)) (y2 := .str (bs rest)) (y3 := .iface0) (.inr rfl) Tryz.results9 rfl rfl ta30 rfl (.refl _) (cl_encV _ _) rfl (.refl _) (.str _) rfl (.refl _) .iface0 ⟨rfl, rfl⟩
theorem read_bad (k : Int) (ins : List Sch) (his : isF 16 (.mk k ins) = true) {M : RdS → Val × RdS} (hM : ∀ id, Reads 25 [.ref id 0, encS (.mk k ins)] id encV M) (b rest : Bs) (hlen : b.length ≤ 1000000) (n m : Int) (s : List Bs) (c : List (List Tk)) (w : List Val) (hm : M (b, none) = (.mk n m s c w, (rest, none))) (hok : okV (.mk n m s c w)) (hfit : (isF 16 (.mk k ins) && isVF (.mk k ins) (.mk n m s c w)) = false) (S : MS) : MCalls Tryz.prog 9 [encS (.mk k ins), .str (bs b)] S fun v σ' => v = .tup [encV noV, .str (bs b), (.iface 45 (.int .i64 10))] ∧ σ' = S := by
 refine mcalls_body Tryz.func9 rfl Tryz.ntmps9 (Nat.le_of_ble_eq_true rfl) ?_
 refine mwp_facts fun _ hcl => ?_
 rw [List.append_nil] at hcl
 refine mwp_seq <| qR rfl <| qB rfl rfl rfl rfl rfl <| qO rfl <| op_alloc' rfl zm30 rfl rfl <| qA rfl rfl rfl <| qA rfl rfl rfl <| qN <| mwp_seq <| mwp_seq <| qR rfl <| qL rfl rfl rfl rfl ta24 rfl ?_
 refine wOps_op rfl (op_call rfl rfl rfl co23 ((Is_spec (.mk k ins) _).mono ?_))
 rintro _ _ ⟨rfl, rfl⟩
 refine qO rfl <| op_not rfl rfl <| qN <| mwp_cond_f rfl (by rw [his]; rfl) ?_
 refine mwp_skip <| mwp_seq <| qR rfl <| qM rfl rfl rfl <| qO rfl <| op_build rfl Tryz.underlying64 zm64 (.cons fo64_0 sz9 rfl rfl (Nat.le_of_ble_eq_true rfl) .nil) (by kernel_rfl) ?_
 refine qB rfl rfl rfl rfl rfl <| qA rfl rfl rfl <| qN <| mwp_seq <| qR rfl ?_
 have hst : (S ++ [MObj.cells (encS (.mk k ins)).cells, MObj.cells [.int .u64 0, .int .u64 0, .lst0, .lst0, .lst0], rdO (b, none)]).set (S.length + 2) (rdO (rest, none)) = S ++ [MObj.cells (encS (.mk k ins)).cells, MObj.cells [.int .u64 0, .int .u64 0, .lst0, .lst0, .lst0], rdO (rest, none)] := by rw [set_own]; rfl
 refine qM rfl rfl rfl <| qL rfl rfl rfl rfl ta24 rfl ?_
 refine wOps_op rfl (op_call rfl rfl rfl co25 ((((hM (S.length + 2)) (b, none) (S ++ [MObj.cells (encS (.mk k ins)).cells, MObj.cells [.int .u64 0, .int .u64 0, .lst0, .lst0, .lst0], rdO (b, none)]) (by rw [getElem?_own]; rfl) hlen)).mono ?_))
 rintro _ _ ⟨rfl, rfl⟩
 rw [hm]
 dsimp only
 rw [hst]
 refine qO rfl <| op_alloc' rfl zm30 rfl rfl <| qO rfl <| op_store' rfl rfl rfl rfl sz30 rfl rfl (Nat.le_of_ble_eq_true rfl) rfl <| qN <| mwp_seq <| mwp_seq <| qR rfl <| qM rfl rfl rfl <| qO rfl <| op_nilCheck rfl rfl rfl <| qF rfl rfl rfl fo64_1 <| qL rfl rfl rfl rfl ta37 rfl <| qO rfl <| op_if0 rfl Tryz.underlying37 rfl rfl (.inl ⟨rfl, rfl⟩) <| qM rfl rfl rfl <| qL rfl rfl rfl rfl ta24 rfl <| qL rfl rfl rfl rfl ta30 rfl ?_
 refine wOps_op rfl (op_call rfl rfl rfl co20 ((valIs_spec (.mk k ins) (.mk n m s c w) hok _).mono ?_))
 rintro _ _ ⟨rfl, rfl⟩
 refine qO rfl <| op_not rfl rfl <| qP rfl rfl rfl rfl <| qN <| mwp_cond_t rfl (by rw [hfit]; rfl) ?_
 refine qR rfl <| qM rfl rfl rfl ?_
 refine wOps_op rfl (op_call rfl rfl rfl co26 (((fails0 (S.length + 2) (rest, none) (S ++ [MObj.cells (encS (.mk k ins)).cells, MObj.cells [.int .u64 0, .int .u64 0, .lst0, .lst0, .lst0], rdO (rest, none), MObj.cells (encV (.mk n m s c w)).cells]) (by rw [getElem?_own]; rfl) _)).mono ?_))
 rintro _ _ ⟨rfl, rfl⟩
 rw [set_own]
 refine qN <| mwp_seq <| mwp_seq <| qR rfl <| qM rfl rfl rfl <| qO rfl <| op_nilCheck rfl rfl rfl <| qF rfl rfl rfl fo64_1 <| qL rfl rfl rfl rfl ta37 rfl <| qO rfl <| op_ifnil rfl Tryz.underlying37 rfl rfl (.inr ⟨rfl, rfl⟩) <| qN <| mwp_cond_t rfl (rfl) <| mwp_seq ?_
 refine mwp_draw [6] [_, S ++ [.cells (encS (.mk k ins)).cells, .cells [.int .u64 0, .int .u64 0, .lst0, .lst0, .lst0], rdO (rest, some 10), .cells (encV (.mk n m s c w)).cells]] mo (by decide) rfl rfl rfl rfl ?_
 refine dO rfl rfl rfl (op_build rfl Tryz.underlying30 zm30 .nil (by kernel_rfl) ⟨rfl, rfl⟩) ?_
 refine dOps_op rfl rfl (.cons (op_move rfl rfl ⟨rfl, rfl⟩) (.cons (op_move rfl rfl ⟨rfl, rfl⟩) (.nil))) <| dOps_op rfl rfl (.cons (op_move rfl rfl ⟨rfl, rfl⟩) (.cons (op_move rfl rfl ⟨rfl, rfl⟩) (.nil))) <| dOps_op rfl rfl (.cons (op_nilCheck rfl rfl rfl ⟨rfl, rfl⟩) (.cons (op_nilCheck rfl rfl rfl ⟨rfl, rfl⟩) (.nil))) <| dOps_op rfl rfl (.cons (op_fieldAddr_ref rfl rfl fo64_1 ⟨rfl, rfl⟩) (.cons (op_fieldAddr_ref rfl rfl fo64_1 ⟨rfl, rfl⟩) (.nil))) <| dOps_op rfl rfl (.cons (op_load' rfl rfl rfl ta37 rfl ⟨rfl, rfl⟩) (.cons (op_load' rfl rfl rfl ta37 rfl ⟨rfl, rfl⟩) (.nil))) <| dOps_eff rfl rfl rfl rfl (op_store' rfl rfl rfl rfl sz30 rfl rfl (Nat.le_of_ble_eq_true rfl) rfl ⟨rfl, rfl⟩) <| dO rfl rfl rfl (op_assign rfl rfl ⟨rfl, rfl⟩) <| dO rfl rfl rfl (op_assign rfl rfl ⟨rfl, rfl⟩) <| dOps_nil <| mwp_ret ?_
 exact ret_ctt (y := encV noV) (y2 := .str (bs b)) (y3 := (.iface 45 (.int .i64 10))) (.inr rfl) Tryz.results9 rfl rfl ta30 rfl (.agg (.cons (.refl _) (.cons (.refl _) (.cons (.nil 1) (.cons (.nil 1) (.cons (.nil 5) .nil)))))) (cl_encV _ _) rfl (.refl _) (.str _) rfl (.refl _) (cl_ER _ _) ⟨rfl, rfl⟩
end Go.Proofs.YthkikhggmbiffaaGreat
end
section
set_option linter.unusedVariables false
set_option linter.unusedSimpArgs false
set_option maxRecDepth 20000
set_option maxHeartbeats 400000
namespace Go.Proofs.YthkikhggmbiffaaGreat
open Go Go.MV Go.RowKit
def SchR (deep : Int) (b rest : Bs) (s : Sch) : Prop := ∀ (id : Nat) (S : MS), S[id]? = some (rdO (b, none)) → b.length ≤ 1000000 → MCalls Tryz.prog 27 [.ref id 0, .int .i64 deep] S fun v σ' => v = encS s ∧ σ' = S.set id (rdO (rest, none))
theorem SchR.sl {deep : Int} {b rest : Bs} {s : Sch} (h : SchR deep b rest s) {id : Nat} {S : MS} (hS : S[id]? = some (rdO (b, none))) (hl : b.length ≤ 1000000) (L : MS) : MCalls Tryz.prog 27 [.ref id 0, .int .i64 deep] (S ++ L) fun v σ' => v = encS s ∧ σ' = S.set id (rdO (rest, none)) ++ L :=
 (h id (S ++ L) (get_sl hS) hl).mono fun v σ' hv => ⟨hv.1, by rw [hv.2, set_sl hS]⟩
theorem schR_map (deep : Int) (hd : 0 < deep ∧ deep ≤ 100) (b b1 rest : Bs) (k1 : Int) (i1 : List Sch) (hn : numM (b, none) = (4, (b1, none))) (ih : SchR (deep - 1) b1 rest (.mk k1 i1)) : SchR deep b rest (.mk 4 [.mk k1 i1]) := by
 intro id S h hlen
 have hl1 : b1.length ≤ 1000000 := by have := (numM_len (b, none)).1; rw [hn] at this; dsimp only at this; omega
 refine mcalls_body Tryz.func27 rfl Tryz.ntmps27 (Nat.le_of_ble_eq_true rfl) ?_
 refine mwp_facts fun _ hcl => ?_
 rw [List.append_nil] at hcl
 refine mwp_seq <| qR rfl <| qO rfl <| op_alloc' rfl zm24 rfl rfl <| qN <| mwp_seq <| mwp_seq <| qR rfl <| qM rfl rfl rfl <| qC rfl rfl rfl rfl rfl <| qN <| mwp_cond_f rfl (decide_eq_false (by omega)) ?_
 refine mwp_skip <| mwp_seq <| qR rfl <| qM rfl rfl rfl ?_
 refine wOps_op rfl (op_call rfl rfl rfl co44 (((num_reads id).sl h hlen).mono ?_))
 rintro _ _ ⟨rfl, rfl⟩
 rw [hn]
 dsimp only
 refine qO rfl <| op_min2' rfl rfl rfl ((by decide : (if (65536 : Int) < ((4 : Nat) : Int) then (65536 : Int) else ((4 : Nat) : Int)) = 4)) ?_
 refine qO rfl <| op_convInt rfl Tryz.underlying25 Tryz.underlying3 rfl ((by decide : IntKind.i64.wrap 4 = 4)) ?_
 refine qO rfl <| op_build rfl Tryz.underlying24 zm24 (.cons fo24_0 sz3 rfl rfl (Nat.le_of_ble_eq_true rfl) .nil) (by kernel_rfl) ?_
 refine qO rfl <| op_alloc' rfl zm24 rfl rfl <| qO rfl <| op_store_own (by simp) rfl rfl rfl rfl sz24 rfl rfl (Nat.le_of_ble_eq_true rfl) rfl ?_
 refine qN <| mwp_seq <| qR rfl <| qA rfl rfl rfl <| qN <| mwp_seq <| mwp_seq <| qR rfl <| qF rfl rfl rfl fo24_0 <| qO rfl <| op_load_own (by simp) rfl rfl rfl ta3 rfl ?_
 refine qN <| mwp_block <| mwp_seq <| mwp_seq <| qR rfl <| qC rfl rfl rfl rfl rfl <| qA rfl rfl rfl <| qN <| mwp_cond_f rfl (rfl) <| mwp_seq <| qR rfl <| qC rfl rfl rfl rfl rfl <| qA rfl rfl rfl <| qN <| mwp_cond_f rfl (rfl) <| mwp_seq <| qR rfl <| qC rfl rfl rfl rfl rfl <| qA rfl rfl rfl <| qN <| mwp_cond_f rfl (rfl) <| mwp_seq <| qR rfl <| qC rfl rfl rfl rfl rfl ?_
 refine qA rfl rfl rfl <| qN <| mwp_cond_f rfl (rfl) <| qR rfl <| qC rfl rfl rfl rfl rfl <| qA rfl rfl rfl <| qN <| mwp_cond_f rfl (rfl) <| mwp_seq <| mwp_seq <| qR rfl <| qC rfl rfl rfl rfl rfl <| qA rfl rfl rfl <| qN <| mwp_cond_t rfl (rfl) <| mwp_skip <| mwp_cond_t rfl (rfl) <| qR rfl <| qA rfl rfl rfl <| qN <| mwp_seq <| mwp_seq <| qR rfl <| qM rfl rfl rfl ?_
 refine qM rfl rfl rfl <| qN <| mwp_block <| mwp_cellrowAt 1 1 24 2 rfl rfl (by simp) rfl rfl ?_
 rw [show (S.set id (rdO (b1, none))).length = S.length by simp]
 show mwp _ _ _ _ _ _ _ (([] : MS) ++ (S.set id (rdO (b1, none)) ++ [.cells [.int .i64 0, .lst0], .cells [.int .i64 4, .lst (some (S.length + 2)) 2 []], .row 24 2 0]))
 refine mwp_loopK (α := Nat) [(0, _), (1, _), (4, _), (5, _), (31, _)] (fun i => [(32, .int .i64 (i : Int))]) (fun i => (S.set id (rdO (if i = 0 then (b1, none) else (rest, none))) ++ [.cells [.int .i64 0, .lst0], .cells [.int .i64 4, .lst (some (S.length + 2)) 2 (([Sch.mk k1 i1].take i).map encS)], .row 24 2 i])) (fun i => i ≤ 1) (fun i => 1 - i) (0) (.keep rfl (.keep rfl (.keep rfl (.keep rfl (.keep rfl (.nil)))))) (.keep rfl (.nil)) (by omega) (rfl) ?_
 rintro i hi
 refine mwp_seq <| qR rfl <| qC rfl rfl rfl rfl rfl <| qN <| mwp_seq ?_
 refine mwp_cond_split rfl (fun h33 => ?_) (fun h33 => ?_)
 ·
  have h0 : i = 0 := by simp at h33; omega
  subst h0
  show mwp _ _ _ _ _ _ _ (S.set id (rdO (b1, none)) ++ [.cells [.int .i64 0, .lst0], .cells [.int .i64 4, .lst (some (S.length + 2)) 2 []], .row 24 2 0])
  refine mwp_skip <| mwp_seq <| mwp_block <| mwp_seq <| qR rfl <| qM rfl rfl rfl <| qO rfl <| op_nilCheck rfl rfl rfl <| qF rfl rfl rfl fo64_1 <| qO rfl <| op_load_far rfl rfl (get_set h) ta37 rfl <| qO rfl <| op_if0 rfl Tryz.underlying37 rfl rfl (.inl ⟨rfl, rfl⟩) <| qN <| mwp_cond_t rfl (rfl) ?_
  refine mwp_draw [5, 7, 9] [_, S.set id (rdO (rest, none)) ++ [.cells [.int .i64 0, .lst0], .cells [.int .i64 4, .lst (some (S.length + 2)) 2 []], .row 24 2 0], S.set id (rdO (rest, none)) ++ [.cells [.int .i64 0, .lst0], .cells [.int .i64 4, .lst (some (S.length + 2)) 2 []], .row 24 2 1], S.set id (rdO (rest, none)) ++ [.cells [.int .i64 0, .lst0], .cells [.int .i64 4, .lst (some (S.length + 2)) 2 [encS (.mk k1 i1)]], .row 24 2 1]] mo (by decide) rfl rfl rfl rfl ?_
  refine dOps_op rfl rfl (.cons (op_fieldAddr_ref rfl rfl fo24_1 ⟨rfl, rfl⟩) (.cons (op_fieldAddr_ref rfl rfl fo24_1 ⟨rfl, rfl⟩) (.cons (op_fieldAddr_ref rfl rfl fo24_1 ⟨rfl, rfl⟩) (.nil)))) <| dOps_op rfl rfl (.cons (op_load_own (by simp) rfl rfl rfl ta22 rfl ⟨rfl, rfl⟩) (.cons (op_load_own (by simp) rfl rfl rfl ta22 rfl ⟨rfl, rfl⟩) (.nil))) ?_
  refine dO rfl rfl rfl (op_move rfl rfl ⟨rfl, rfl⟩) <| dOps_op rfl rfl (.cons (op_move rfl rfl ⟨rfl, rfl⟩) (.cons (op_move rfl rfl ⟨rfl, rfl⟩) (.cons (op_move rfl rfl ⟨rfl, rfl⟩) (.nil)))) <| dO rfl rfl rfl (op_arith rfl rfl rfl (by show some (IntKind.i64.wrap (deep - 1)) = some (deep - 1); rw [wrap_i64 (by omega)]) ⟨rfl, rfl⟩) ?_
  refine dOps_eff rfl rfl rfl rfl (op_call rfl rfl rfl co27 (((ih.sl (S := S.set id (rdO (b1, none))) (get_set h) hl1 [.cells [.int .i64 0, .lst0], .cells [.int .i64 4, .lst (some (S.length + 2)) 2 []], .row 24 2 0]).mono fun v σ' hv => ⟨hv.1, hv.2.trans (by rw [set_set])⟩))) ?_
  refine dO rfl rfl rfl (op_buildSlice rfl Tryz.underlying22 el24 rfl rfl (by decide) (by decide) rfl rfl ⟨rfl, rfl⟩) ?_
  refine dOps_eff rfl rfl rfl rfl (op_append rfl Tryz.underlying22 el24 rfl rfl ((own_getS (by simp)).trans rfl) rfl (by simp) (by simp) ⟨rfl, (own_setS (by simp)).trans rfl⟩) ?_
  refine dO rfl rfl rfl (op_fieldAddr_ref rfl rfl fo24_1 ⟨rfl, rfl⟩) <| dOps_eff rfl rfl rfl rfl (op_store_own (by simp) rfl rfl rfl rfl sz22 rfl rfl (Nat.le_of_ble_eq_true rfl) rfl ⟨rfl, rfl⟩) ?_
  refine dOps_nil <| qR rfl <| qO rfl <| op_arith rfl rfl rfl rfl <| qM rfl rfl rfl <| qN ?_
  refine ⟨1, by omega, by omega, rfl, (.keep rfl (.keep rfl (.keep rfl (.keep rfl (.keep rfl (.nil)))))), (.eq rfl (rfl) (.nil))⟩
 ·
  have h1 : i = 1 := by simp at h33; omega
  subst h1
  show mwp _ _ _ _ _ _ _ (S.set id (rdO (rest, none)) ++ [.cells [.int .i64 0, .lst0], .cells [.int .i64 4, .lst (some (S.length + 2)) 2 [encS (.mk k1 i1)]], .row 24 2 1])
  refine mwp_exit <| mwp_seq <| qR rfl <| qO rfl <| op_load_own (by simp) rfl rfl rfl ta24 rfl ?_
  refine qO rfl <| op_store_own (by simp) rfl rfl rfl rfl sz24 rfl rfl (Nat.le_of_ble_eq_true rfl) rfl ?_
  refine qN <| mwp_ret ?_
  exact ret_cellS (y := encS (.mk 4 [.mk k1 i1])) (by simp) (.inr rfl) Tryz.results27 rfl rfl ta24 rfl (.agg (.cons (.refl _) (.cons (.view _ _ _) .nil))) (cl_encS _ _) (hcl.set (rd_cl _ _)) ⟨rfl, rfl⟩
end Go.Proofs.YthkikhggmbiffaaGreat
end
section
set_option linter.unusedVariables false
set_option linter.unusedSimpArgs false
namespace Go.MV
open Go Go.RowKit
section
variable {P : Program} {rd : Option Nat} {o : Oper} {env : Env} {σ : MS} {K : MV → MS → Prop}
end
end Go.MV
end
section
set_option linter.unusedVariables false
set_option linter.unusedSimpArgs false
namespace Go.MV
open Go Go.RowKit
section
variable {P : Program} {rd : Option Nat} {o : Oper} {env : Env} {σ : MS} {K : MV → MS → Prop}
end
theorem Rel.freeze {g : Gh} {σ : MS} {w : World} (h : Rel g σ w) {id b k : Nat} {l : List MV} (hσ : σ[id]? = some (.cells l)) (hb : g.bk id = some b) (hk : k ≤ l.length) :
    Rel (g.stab b k) (σ.set id .gone) w ∧ Le g w (g.stab b k) w := by
  obtain ⟨own, hown⟩ := h.ex
  obtain ⟨b', us, ty, e1, e2, e3, ⟨fr, e4, _⟩, e5⟩ := hown.obj _ _ hσ
  rw [hb] at e2
  injection e2 with e2
  subst e2
  have hle : Le g w (g.stab b k) w := by
    refine ⟨⟨rfl, rfl, fun c i hi => ⟨?_, rfl⟩, fun _ _ h => h, fun _ _ _ h => h, Nat.le_refl _⟩, fun _ _ h => h⟩
    simp only [Gh.stab]
    split
    · rename_i e; subst e; omega
    · exact hi
  have hg := h.gone id
  refine ⟨⟨h.below, h.base, fun c hc => ?_, fun i hi => h.bkn i (by simpa using hi), fun t n ht => h.lgn t n (by simpa using ht), ?_⟩, hle⟩
  · simp only [Gh.stab]
    split
    · rename_i e
      subst e
      have := (hown.lt id c e1).2.2
      omega
    · exact h.fresh c hc
  · refine ⟨fun i => if i = id then none else own i, ⟨fun i ob hi => ?_, fun i j c hi hj => ?_, fun i c hi => ?_⟩⟩
    · by_cases e : i = id
      · subst e
        rw [List.getElem?_set, if_pos rfl] at hi
        split at hi
        · injection hi with hi
          subst hi
          simp [ObjRel]
        · cases hi
      · rw [if_neg e]
        rw [List.getElem?_set_ne (fun h => e h.symm)] at hi
        refine (hown.obj i ob hi).keep0 hle.toLe0 (fun c hc => ⟨rfl, ?_⟩) (fun _ => rfl)
        simp only [Gh.stab]
        rw [if_neg]
        intro ec
        subst ec
        exact e (hown.inj _ _ _ hc e1)
    · split at hi
      · cases hi
      · split at hj
        · cases hj
        · exact hown.inj i j c hi hj
    · split at hi
      · cases hi
      · obtain ⟨h1, h2⟩ := hown.lt i c hi
        exact ⟨by simpa using h1, h2⟩
section
variable {P : Program} {rd : Option Nat} {N n : Nat} {c : Code} {Q : Exit → Env → MS → Prop} {env : Env} {S L : MS}
end
end Go.MV
end
section
set_option linter.unusedVariables false
set_option linter.unusedSimpArgs false
set_option maxRecDepth 20000
set_option maxHeartbeats 400000
namespace Go.Proofs.YthkikhggmbiffaaGreat
open Go Go.MV Go.RowKit
def vK : Val := .mk 0 0 [[97], [98]] [] []
def vK2 : Val := .mk 0 0 [[98], [97]] [] []
theorem numB3 : numB 3 = [3] := by rw [numB_lo (by decide)]; rfl
theorem numB2 : numB 2 = [2] := by rw [numB_lo (by decide)]; rfl
theorem numB1 : numB 1 = [1] := by rw [numB_lo (by decide)]; rfl
theorem numB128 : numB 128 = [128, 1] := by rw [numB_hi (by decide), numB_lo (by decide)]; rfl
theorem schB3 : schB (.mk 3 []) = [3] := by
 rw [schB, schBs, List.append_nil]
 exact numB3
theorem vK_B : flatB 3 vK = [2, 1, 97, 1, 98] := by
 show numB 2 ++ ((numB 1 ++ [97]) ++ ((numB 1 ++ [98]) ++ [])) = _
 rw [numB2, numB1]
 rfl
theorem textB_a : textB [97] = [1, 97] := by
 show numB 1 ++ [97] = _
 rw [numB1]
 rfl
theorem isF3 : isF 16 (.mk 3 []) = true := by decide
theorem vK_yes : (isF 16 (.mk 3 []) && isVF (.mk 3 []) vK) = true := by
 rw [isF3, Bool.true_and, vK, isVF]
 rfl
theorem vK2_no : (isF 16 (.mk 3 []) && isVF (.mk 3 []) vK2) = false := by
 rw [isF3, Bool.true_and, vK2, isVF]
 rfl
theorem vK_ok : okV vK := by simp [vK, okV, okVs]
theorem vK2_ok : okV vK2 := by simp [vK2, okV, okVs]
theorem hn3 : numM ([3] ++ [120], none) = (3, ([120], none)) := by rfl
theorem hn0 : numM ([], none) = (0, ([], some 11)) := by rfl
theorem hmK : flatM 3 ([2, 1, 97, 1, 98] ++ [121], none) = (vK, ([121], none)) := by rfl
theorem hmK2 : flatM 3 ([2, 1, 98, 1, 97], none) = (vK2, ([], none)) := by rfl
theorem same3 (S : MS) : MCalls Tryz.prog 12 [encS (.mk 3 []), encS (.mk 3 [])] S fun v σ' => v = .bool true ∧ σ' = S := by
 refine mcalls_body Tryz.func12 rfl Tryz.ntmps12 (Nat.le_of_ble_eq_true rfl) ?_
 refine mwp_seq <| qR rfl <| qB rfl rfl rfl rfl rfl <| qB rfl rfl rfl rfl rfl <| qA rfl rfl rfl <| qN <| mwp_seq <| mwp_seq <| qR rfl <| qF rfl rfl rfl fo24_0 <| qL rfl rfl rfl rfl ta3 rfl <| qF rfl rfl rfl fo24_0 <| qL rfl rfl rfl rfl ta3 rfl <| qC rfl rfl rfl rfl rfl <| qM rfl rfl rfl <| qF rfl rfl rfl fo24_1 <| qL rfl rfl rfl rfl ta22 rfl <| qE rfl rfl Tryz.underlying22 rfl ?_
 refine qF rfl rfl rfl fo24_1 <| qL rfl rfl rfl rfl ta22 rfl <| qE rfl rfl Tryz.underlying22 rfl <| qC rfl rfl rfl rfl rfl <| qP rfl rfl rfl rfl <| qN <| mwp_cond_f rfl (rfl) <| mwp_skip <| mwp_seq <| mwp_seq <| qR rfl <| qA rfl rfl rfl <| qN <| mwp_block ?_
 refine mwp_loopK (α := Nat) [(2, _), (3, _)] (fun i => [(5, .int .i64 (0 : Int))]) (fun i => [.cells (encS (.mk 3 [])).cells, .cells (encS (.mk 3 [])).cells]) (fun i => True) (fun i => 0) (0) (.keep rfl (.keep rfl (.nil))) (.keep rfl (.nil)) (trivial) (rfl) ?_
 rintro i _
 refine mwp_seq <| mwp_seq <| qR rfl <| qM rfl rfl rfl <| qF rfl rfl rfl fo24_1 <| qL rfl rfl rfl rfl ta22 rfl <| qE rfl rfl Tryz.underlying22 rfl <| qC rfl rfl rfl rfl rfl <| qN <| mwp_cond_f rfl (rfl) <| mwp_exit <| mwp_seq <| qR rfl <| qA rfl rfl rfl <| qN <| mwp_ret ?_
 exact ret_tmp (.inr rfl) Tryz.results12 rfl (.of_eq (rfl)) (.bool _) ⟨rfl, rfl⟩
theorem known9_spec (S : MS) : MCalls Tryz.prog 5 [] S fun v σ' => v = .bool true ∧ σ' = S := by
 refine mcalls_body Tryz.func5 rfl Tryz.ntmps5 (Nat.le_of_ble_eq_true rfl) ?_
 refine mwp_seq <| qR rfl <| qA rfl rfl rfl <| qN <| mwp_seq <| qR rfl <| qO rfl <| op_build rfl Tryz.underlying24 zm24 (.cons fo24_0 sz3 rfl rfl (Nat.le_of_ble_eq_true rfl) .nil) (by kernel_rfl) ?_
 refine qO rfl <| op_alloc' rfl zm24 rfl rfl <| qO rfl <| op_store' rfl rfl rfl rfl sz24 rfl rfl (Nat.le_of_ble_eq_true rfl) rfl <| qN <| mwp_seq <| qR rfl <| qL rfl rfl rfl rfl ta24 rfl ?_
 refine wOps_op rfl (op_call rfl rfl rfl co8 (((schema_spec (.mk 3 []) isF3 _).sub (.cons (.agg (.cons (.refl _) (.cons (.nil 2) .nil))) .nil)).mono ?_))
 rintro _ _ ⟨rfl, rfl⟩
 rw [schB3]
 refine qO rfl <| op_strcat rfl rfl rfl (by decide) ?_
 refine wOps_op rfl (op_call rfl rfl rfl co10 ((readS_leaf ([3] ++ [120]) [120] (by decide) hn3 _).mono ?_))
 rintro _ _ ⟨rfl, rfl⟩
 refine qM rfl rfl rfl <| qO rfl <| op_extract rfl rfl rfl <| qO rfl <| op_extract rfl rfl rfl <| qO rfl <| op_extract rfl rfl rfl <| qO rfl <| op_alloc' rfl zm24 rfl rfl <| qO rfl <| op_store' rfl rfl rfl rfl sz24 rfl rfl (Nat.le_of_ble_eq_true rfl) rfl <| qA rfl rfl rfl <| qA rfl rfl rfl <| qN <| mwp_seq ?_
 refine mwp_draw [11, 12] [_, S ++ [.cells [.int .i64 3, .lst0], .cells (encS (.mk 3 [])).cells, .cells [.int .u64 0, .int .u64 0, .lst0, .lst0, .lst0]], S ++ [.cells [.int .i64 3, .lst0], .cells (encS (.mk 3 [])).cells, .cells (encV vK).cells]] mo (by decide) rfl rfl rfl rfl ?_
 refine dOps_op rfl rfl (.cons (op_load' rfl rfl rfl ta24 rfl ⟨rfl, rfl⟩) (.cons (op_load' rfl rfl rfl ta24 rfl ⟨rfl, rfl⟩) (.nil))) <| dOps_op rfl rfl (.cons (op_load' rfl rfl rfl ta24 rfl ⟨rfl, rfl⟩) (.cons (op_load' rfl rfl rfl ta24 rfl ⟨rfl, rfl⟩) (.nil))) <| dOps_op rfl rfl (.cons (op_buildSlice rfl Tryz.underlying26 el9 rfl rfl (by decide) (by decide) rfl rfl ⟨rfl, rfl⟩) (.cons (op_buildSlice rfl Tryz.underlying26 el9 rfl rfl (by decide) (by decide) rfl rfl ⟨rfl, rfl⟩) (.nil))) ?_
 refine dOps_op rfl rfl (.cons (op_build rfl Tryz.underlying30 zm30 (.cons fo30_2 sz26 rfl rfl (Nat.le_of_ble_eq_true rfl) .nil) (by kernel_rfl) ⟨rfl, rfl⟩) (.cons (op_build rfl Tryz.underlying30 zm30 (.cons fo30_2 sz26 rfl rfl (Nat.le_of_ble_eq_true rfl) .nil) (by kernel_rfl) ⟨rfl, rfl⟩) (.nil))) ?_
 refine dOps_op rfl rfl (.cons (op_call rfl rfl rfl co7 ((bytes_spec (.mk 3 []) vK (flatB 3 vK) vK_ok vK_yes (by rw [vK_B]; simp) (by rw [vK_B]; simp) (fun id t => flat_writes 3 [] (.inr (.inr rfl)) 0 0 [[97], [98]] [] [] (by decide) (by decide) (by decide) id t) _).sub (.cons (.agg (.cons (.refl _) (.cons (.nil 2) .nil))) (.cons (.agg (.cons (.refl _) (.cons (.refl _) (.cons (.refl _) (.cons (.nil 1) (.cons (.nil 5) .nil)))))) .nil)))) (.cons (op_call rfl rfl rfl co7 ((bytes_spec (.mk 3 []) vK (flatB 3 vK) vK_ok vK_yes (by rw [vK_B]; simp) (by rw [vK_B]; simp) (fun id t => flat_writes 3 [] (.inr (.inr rfl)) 0 0 [[97], [98]] [] [] (by decide) (by decide) (by decide) id t) _).sub (.cons (.agg (.cons (.refl _) (.cons (.nil 2) .nil))) (.cons (.agg (.cons (.refl _) (.cons (.refl _) (.cons (.refl _) (.cons (.nil 1) (.cons (.nil 5) .nil)))))) .nil)))) (.nil))) ?_
 rw [vK_B]
 refine dOps_op rfl rfl (.cons (op_strcat rfl rfl rfl (by decide) ⟨rfl, rfl⟩) (.cons (op_strcat rfl rfl rfl (by decide) ⟨rfl, rfl⟩) (.nil))) ?_
 refine dOps_op rfl rfl (.cons (op_call rfl rfl rfl co9 ((read_good 3 [] isF3 (fun id => flat_reads 3 [] (.inr (.inr rfl)) id) ([2, 1, 97, 1, 98] ++ [121]) [121] (by decide) 0 0 [[97], [98]] [] [] hmK vK_ok vK_yes _).sub (.cons (.agg (.cons (.refl _) (.cons (.nil 2) .nil))) (.cons (.refl _) .nil)))) (.cons (op_call rfl rfl rfl co9 ((read_good 3 [] isF3 (fun id => flat_reads 3 [] (.inr (.inr rfl)) id) ([2, 1, 97, 1, 98] ++ [121]) [121] (by decide) 0 0 [[97], [98]] [] [] hmK vK_ok vK_yes _).sub (.cons (.agg (.cons (.refl _) (.cons (.nil 2) .nil))) (.cons (.refl _) .nil)))) (.nil))) ?_
 refine dOps_op rfl rfl (.cons (op_move rfl rfl ⟨rfl, rfl⟩) (.cons (op_move rfl rfl ⟨rfl, rfl⟩) (.nil))) <| dOps_op rfl rfl (.cons (op_extract rfl rfl rfl ⟨rfl, rfl⟩) (.cons (op_extract rfl rfl rfl ⟨rfl, rfl⟩) (.nil))) <| dOps_op rfl rfl (.cons (op_extract rfl rfl rfl ⟨rfl, rfl⟩) (.cons (op_extract rfl rfl rfl ⟨rfl, rfl⟩) (.cons (op_extract rfl rfl rfl ⟨rfl, rfl⟩) (.nil)))) <| dOps_op rfl rfl (.cons (op_extract rfl rfl rfl ⟨rfl, rfl⟩) (.cons (op_extract rfl rfl rfl ⟨rfl, rfl⟩) (.cons (op_extract rfl rfl rfl ⟨rfl, rfl⟩) (.nil)))) <| dOps_eff rfl rfl rfl rfl (op_alloc' rfl zm30 rfl rfl ⟨rfl, rfl⟩) <| dOps_eff rfl rfl rfl rfl (op_store' rfl rfl rfl rfl sz30 rfl rfl (Nat.le_of_ble_eq_true rfl) rfl ⟨rfl, rfl⟩) <| dO rfl rfl rfl (op_assign rfl rfl ⟨rfl, rfl⟩) <| dO rfl rfl rfl (op_assign rfl rfl ⟨rfl, rfl⟩) <| dOps_nil <| mwp_seq <| qR rfl <| qL rfl rfl rfl rfl ta24 rfl ?_
 refine wOps_op rfl (op_call rfl rfl rfl co9 (((read_bad 3 [] isF3 (fun id => flat_reads 3 [] (.inr (.inr rfl)) id) [2, 1, 98, 1, 97] [] (by decide) 0 0 [[98], [97]] [] [] hmK2 vK2_ok vK2_no _).sub (.cons (.agg (.cons (.refl _) (.cons (.nil 2) .nil))) (.cons (.refl _) .nil))).mono ?_))
 rintro _ _ ⟨rfl, rfl⟩
 refine qM rfl rfl rfl <| qO rfl <| op_extract rfl rfl rfl <| qO rfl <| op_extract rfl rfl rfl <| qO rfl <| op_extract rfl rfl rfl <| qO rfl <| op_alloc' rfl zm30 rfl rfl <| qO rfl <| op_store' rfl rfl rfl rfl sz30 rfl rfl (Nat.le_of_ble_eq_true rfl) rfl <| qA rfl rfl rfl <| qA rfl rfl rfl <| qN <| mwp_seq <| qR rfl ?_
 refine wOps_op rfl (op_call rfl rfl rfl co10 ((readS_short [] (by decide) hn0 _).mono ?_))
 rintro _ _ ⟨rfl, rfl⟩
 refine qM rfl rfl rfl <| qO rfl <| op_extract rfl rfl rfl <| qO rfl <| op_extract rfl rfl rfl <| qO rfl <| op_extract rfl rfl rfl <| qO rfl <| op_alloc' rfl zm24 rfl rfl <| qO rfl <| op_store' rfl rfl rfl rfl sz24 rfl rfl (Nat.le_of_ble_eq_true rfl) rfl <| qA rfl rfl rfl <| qA rfl rfl rfl <| qN <| mwp_seq <| qR rfl <| qM rfl rfl rfl <| qO rfl <| op_if0 rfl Tryz.underlying37 rfl rfl (.inl ⟨rfl, rfl⟩) <| qM rfl rfl rfl <| qM rfl rfl rfl <| qO rfl <| op_strcmp rfl rfl rfl rfl <| qP rfl rfl rfl rfl ?_
 refine qM rfl rfl rfl <| qL rfl rfl rfl rfl ta24 rfl <| qL rfl rfl rfl rfl ta24 rfl ?_
 refine wOps_op rfl (op_call rfl rfl rfl co12 (((same3 _).sub (.cons (.refl _) (.cons (.agg (.cons (.refl _) (.cons (.nil 2) .nil))) .nil))).mono ?_))
 rintro _ _ ⟨rfl, rfl⟩
 refine qP rfl rfl rfl rfl <| qM rfl rfl rfl <| qM rfl rfl rfl <| qO rfl <| op_if0 rfl Tryz.underlying37 rfl rfl (.inl ⟨rfl, rfl⟩) <| qP rfl rfl rfl rfl <| qM rfl rfl rfl <| qM rfl rfl rfl <| qO rfl <| op_strcmp rfl rfl rfl rfl <| qP rfl rfl rfl rfl <| qM rfl rfl rfl <| qF rfl rfl rfl fo30_2 <| qL rfl rfl rfl rfl ta26 rfl <| qE rfl rfl Tryz.underlying26 rfl <| qC rfl rfl rfl rfl rfl <| qP rfl rfl rfl rfl ?_
 refine qM rfl rfl rfl <| qM rfl rfl rfl <| qO rfl <| op_makeInterface rfl rfl Tryz.underlying45 (by simp) ?_
 refine wOps_op rfl (op_call rfl rfl rfl co13 ((errIs_spec 10 _).mono ?_))
 rintro _ _ ⟨rfl, rfl⟩
 refine qP rfl rfl rfl rfl <| qM rfl rfl rfl <| qM rfl rfl rfl <| qO rfl <| op_makeInterface rfl rfl Tryz.underlying45 (by simp) ?_
 refine wOps_op rfl (op_call rfl rfl rfl co13 ((errIs_spec 11 _).mono ?_))
 rintro _ _ ⟨rfl, rfl⟩
 refine qP rfl rfl rfl rfl <| qM rfl rfl rfl ?_
 refine wOps_op rfl (op_call rfl rfl rfl co15 ((codeNum_spec 128 (by decide) (by rw [numB128]; decide) _).mono ?_))
 rintro _ _ ⟨rfl, rfl⟩
 rw [numB128]
 refine qO rfl <| op_strcmp rfl rfl rfl rfl <| qP rfl rfl rfl rfl <| qM rfl rfl rfl ?_
 refine wOps_op rfl (op_call rfl rfl rfl co16 ((codeText_spec [97] (by decide) _).mono ?_))
 rintro _ _ ⟨rfl, rfl⟩
 rw [textB_a]
 refine qO rfl <| op_strcmp rfl rfl rfl rfl <| qP rfl rfl rfl rfl <| qM rfl rfl rfl ?_
 refine wOps_op rfl (op_call rfl rfl rfl co17 ((codeHash_spec [] (by decide) _).mono ?_))
 rintro _ _ ⟨rfl, rfl⟩
 refine qC rfl rfl rfl rfl rfl <| qP rfl rfl rfl rfl <| qA rfl rfl rfl <| qN <| mwp_ret ?_
 exact ret_tmp (.inr rfl) Tryz.results5 rfl (.of_eq (rfl)) (.bool _) ⟨rfl, rfl⟩
end Go.Proofs.YthkikhggmbiffaaGreat
end
section
set_option linter.unusedVariables false
set_option linter.unusedSimpArgs false
set_option maxRecDepth 20000
set_option maxHeartbeats 400000
namespace Go.Proofs.YthkikhggmbiffaaGreat
open Go Go.MV Go.RowKit
theorem of9_spec (k : Int) (S : MS) : MCalls Tryz.prog 14 [.int .i64 k, .lst0] S fun v σ' => v = encS (.mk k []) ∧ σ' = S := by
 refine mcalls_body Tryz.func14 rfl Tryz.ntmps14 (Nat.le_of_ble_eq_true rfl) ?_
 refine mwp_seq <| qR rfl <| qO rfl <| op_alloc' rfl zm24 rfl rfl <| qN <| mwp_seq <| qR rfl <| qM rfl rfl rfl <| qM rfl rfl rfl <| qO rfl <| op_build rfl Tryz.underlying24 zm24 (.cons fo24_0 sz3 rfl rfl (Nat.le_of_ble_eq_true rfl) (.cons fo24_1 sz22 rfl rfl (Nat.le_of_ble_eq_true rfl) .nil)) (by kernel_rfl) ?_
 refine qO rfl <| op_store' rfl rfl rfl rfl sz24 rfl rfl (Nat.le_of_ble_eq_true rfl) rfl <| qN <| mwp_ret ?_
 exact ret_cell (y := encS (.mk k [])) (.inr rfl) Tryz.results14 rfl rfl ta24 rfl (.agg (.cons (.refl _) (.cons (.nil 2) .nil))) (cl_encS _ _) ⟨rfl, rfl⟩
end Go.Proofs.YthkikhggmbiffaaGreat
end
section
set_option linter.unusedVariables false
set_option linter.unusedSimpArgs false
set_option maxRecDepth 20000
set_option maxHeartbeats 400000
namespace Go.Proofs.YthkikhggmbiffaaGreat
open Go Go.MV Go.RowKit
def nestS : Nat → Sch
 | 0 => .mk 1 []
 | k + 1 => .mk 4 [nestS k]
def nestV (ch : UInt8) : Nat → Val
 | 0 => .mk 9 0 [] [] []
 | k + 1 => .mk 0 0 [[ch]] [] [nestV ch k]
def nestB (ch : UInt8) : Nat → Bs
 | 0 => [9]
 | k + 1 => [1, 1, ch] ++ nestB ch k
theorem nestB_len (ch : UInt8) : ∀ k, (nestB ch k).length = 3 * k + 1
 | 0 => rfl
 | k + 1 => by rw [nestB, List.length_append, nestB_len ch k]; simp; omega
theorem nestS_isF : ∀ (k d : Nat), k < d → isF d (nestS k) = true
 | 0, d + 1, _ => by simp [nestS, isF, partsF]
 | k + 1, d + 1, h => by
  have := nestS_isF k d (by omega)
  simp [nestS, isF, partsF, this]
theorem num9 (r : Bs) : numM (9 :: r, none) = (9, (r, none)) := num_ok (by simp [numScan])
theorem num1 (r : Bs) : numM (1 :: r, none) = (1, (r, none)) := num_ok (by simp [numScan])
theorem num4 (r : Bs) : numM (4 :: r, none) = (4, (r, none)) := num_ok (by simp [numScan])
theorem text1 (ch : UInt8) (r : Bs) : textM (1 :: ch :: r, none) = ([ch], (r, none)) := by
 simp [textM, num1]
theorem nest_back (ch : UInt8) : ∀ (k : Nat) (rest : Bs), valueM (nestS k) (nestB ch k ++ rest, none) = (nestV ch k, (rest, none))
 | 0, rest => by
  have := num9 rest
  simp [nestS, nestB, nestV, valueM, valueMs, kindM, flatM, this]
 | k + 1, rest => by
  have ih := nest_back ch k rest
  have h1 := num1 (1 :: ch :: (nestB ch k ++ rest))
  have h2 := text1 ch (nestB ch k ++ rest)
  rw [nestS, valueM, valueMs, valueMs, nestB]
  simp only [List.cons_append, List.nil_append]
  simp [kindM, mapM, rowC, rowStart, rowGoC, h1, entM, h2, ih, nestV]
theorem nestB_ents (ch : UInt8) (k : Nat) : entsB (fun _ => nestB ch k) [([ch], nestV ch k)] = nestB ch (k + 1) := by
 show numB 1 ++ ((numB 1 ++ [ch] ++ nestB ch k) ++ []) = _
 rw [numB1, nestB]
 simp
theorem same_self (d : Nat) : ∀ s, isF d s = true → ∀ S : MS, MCalls Tryz.prog 12 [encS s, encS s] S fun v σ' => v = .bool true ∧ σ' = S := by
 induction d with
 | zero => intro s h; simp [isF] at h
 | succ d ih =>
 rintro ⟨k, ins⟩ hd S
 rw [isF] at hd
 simp only [Bool.and_eq_true, List.all_eq_true, beq_iff_eq] at hd
 have hlen' : ins.length ≤ maxLen := by
  obtain ⟨q, _, _, _, hm⟩ := k8_nat hd.1
  simp only [maxLen]
  omega
 refine mcalls_body Tryz.func12 rfl Tryz.ntmps12 (Nat.le_of_ble_eq_true rfl) ?_
 refine mwp_seq <| qR rfl <| qB rfl rfl rfl rfl rfl <| qB rfl rfl rfl rfl rfl <| qA rfl rfl rfl <| qN <| mwp_seq <| mwp_seq <| qR rfl <| qF rfl rfl rfl fo24_0 <| qL rfl rfl rfl rfl ta3 rfl <| qF rfl rfl rfl fo24_0 <| qL rfl rfl rfl rfl ta3 rfl <| qO rfl <| op_viewTo (y := .bool false) (op_cmp rfl rfl rfl rfl ⟨rfl, rfl⟩) (.of_eq (congrArg MV.bool (by simp))) ?_
 refine qM rfl rfl rfl <| qF rfl rfl rfl fo24_1 <| qL rfl rfl rfl rfl ta22 rfl <| qE rfl rfl Tryz.underlying22 rfl <| qF rfl rfl rfl fo24_1 <| qL rfl rfl rfl rfl ta22 rfl <| qE rfl rfl Tryz.underlying22 rfl <| qO rfl <| op_viewTo (y := .bool false) (op_cmp rfl rfl rfl rfl ⟨rfl, rfl⟩) (.of_eq (congrArg MV.bool (by simp))) ?_
 refine qP rfl rfl rfl rfl <| qN <| mwp_cond_f rfl (rfl) <| mwp_skip <| mwp_seq <| mwp_seq <| qR rfl <| qA rfl rfl rfl <| qN <| mwp_block ?_
 refine mwp_loopK (α := Nat) [(2, _), (3, _)] (fun i => [(5, .int .i64 (i : Int))]) (fun i => [.cells (encS (.mk k ins)).cells, .cells (encS (.mk k ins)).cells]) (fun i => i ≤ ins.length) (fun i => ins.length - i) (0) (.keep rfl (.keep rfl (.nil))) (.keep rfl (.nil)) (by omega) (rfl) ?_
 rintro i hi
 refine mwp_seq <| mwp_seq <| qR rfl <| qM rfl rfl rfl <| qF rfl rfl rfl fo24_1 <| qL rfl rfl rfl rfl ta22 rfl <| qE rfl rfl Tryz.underlying22 rfl <| qC rfl rfl rfl rfl rfl <| qN ?_
 refine mwp_cond_split rfl (fun h24 => ?_) (fun h24 => ?_)
 ·
  rw [encSs_length] at h24
  have hlt : i < ins.length := by simpa using h24
  obtain ⟨⟨k1, i1⟩, hs⟩ : ∃ q_, ins[i]? = some q_ := ⟨_, List.getElem?_eq_getElem hlt⟩
  refine mwp_skip <| mwp_seq <| mwp_block <| mwp_seq ?_
  refine mwp_draw [] [_] mo (by decide) rfl rfl rfl rfl ?_
  refine dO rfl rfl rfl (op_fieldAddr_ref rfl rfl fo24_1 ⟨rfl, rfl⟩) <| dO rfl rfl rfl (op_load' rfl rfl rfl ta22 rfl ⟨rfl, rfl⟩) <| dO rfl rfl rfl (op_move rfl rfl ⟨rfl, rfl⟩) <| dO rfl rfl rfl (op_indexAddr rfl Tryz.underlying22 sz24 (by decide) rfl rfl rfl (encSs_get hs) ⟨rfl, rfl⟩) ?_
  refine dO rfl rfl rfl (op_load_sptr rfl rfl ta24 rfl ⟨rfl, rfl⟩) <| dO rfl rfl rfl (op_fieldAddr_ref rfl rfl fo24_1 ⟨rfl, rfl⟩) <| dO rfl rfl rfl (op_load' rfl rfl rfl ta22 rfl ⟨rfl, rfl⟩) <| dO rfl rfl rfl (op_move rfl rfl ⟨rfl, rfl⟩) <| dO rfl rfl rfl (op_indexAddr rfl Tryz.underlying22 sz24 (by decide) rfl rfl rfl (encSs_get hs) ⟨rfl, rfl⟩) ?_
  refine dO rfl rfl rfl (op_load_sptr rfl rfl ta24 rfl ⟨rfl, rfl⟩) <| dOps_op rfl rfl (.cons (op_call rfl rfl rfl co12 (ih (.mk k1 i1) (hd.2 _ (List.mem_of_getElem? hs)) _)) .nil) <| dO rfl rfl rfl (op_not rfl rfl ⟨rfl, rfl⟩) <| dOps_nil <| mwp_cond_f rfl (rfl) <| mwp_skip <| qR rfl <| qM rfl rfl rfl <| qO rfl <| op_arith rfl rfl rfl rfl <| qA rfl rfl rfl <| qN ?_
  refine ⟨i + 1, by omega, by omega, rfl, (.keep rfl (.keep rfl (.nil))), (.eq rfl (int_succ hlt hlen') (.nil))⟩
 ·
  rw [encSs_length] at h24
  have hge : i = ins.length := by simp at h24; omega
  refine mwp_exit <| mwp_seq <| qR rfl <| qA rfl rfl rfl <| qN <| mwp_ret ?_
  exact ret_tmp (.inr rfl) Tryz.results12 rfl (.of_eq (rfl)) (.bool _) ⟨rfl, rfl⟩
end Go.Proofs.YthkikhggmbiffaaGreat
end
section
set_option linter.unusedVariables false
set_option linter.unusedSimpArgs false
set_option maxRecDepth 20000
set_option maxHeartbeats 400000
namespace Go.Proofs.YthkikhggmbiffaaGreat
open Go Go.MV Go.RowKit
theorem nestV_ok (ch : UInt8) : ∀ k, okV (nestV ch k)
 | 0 => by simp [nestV, okV, okVs]
 | k + 1 => by
  have := nestV_ok ch k
  simp [nestV, okV, okVs, this]
theorem nest_none (ch : UInt8) (k : Nat) : noneF (nestS k) (nestV ch k) = false := by
 unfold noneF BottomF
 rw [decide_eq_false_iff_not]
 cases k with
 | zero => split <;> simp [nestS, nestV, bottomF, noV]
 | succ k => split <;> simp [nestS, nestV, bottomF, noV]
theorem row_ch (ch : UInt8) : isRowF [[ch]] = true := by rfl
theorem nest_is (ch : UInt8) : ∀ k, isVF (nestS k) (nestV ch k) = true
 | 0 => by
  rw [nestS, nestV, isVF]
  rfl
 | k + 1 => by
  have ih := nest_is ch k
  have hn := nest_none ch k
  rw [nestS, nestV, isVF]
  simp [isB, isVL, bareF, numsK, textsK, clocksK, valuesK, Val.nv, Val.mv, Val.sv, Val.cv, Val.vv, row_ch, ih, hn]
def nestC : Nat → Bs
 | 0 => [1]
 | k + 1 => 4 :: nestC k
theorem nestC_eq : ∀ k, schB (nestS k) = nestC k
 | 0 => by rw [nestS, schB, schBs, List.append_nil]; exact numB1
 | k + 1 => by
  rw [nestS, schB, schBs, schBs, List.append_nil, nestC_eq k, nestC, show ((4 : Int)).toNat = 4 from rfl, numB_lo (by decide)]
  rfl
theorem nestC_len : ∀ k, (nestC k).length = k + 1
 | 0 => rfl
 | k + 1 => by rw [nestC, List.length_cons, nestC_len k]
theorem schR_one (deep : Int) (hd : 0 < deep) (rest : Bs) : SchR deep (1 :: rest) rest (.mk 1 []) := by
 intro id S h hlen
 refine mcalls_body Tryz.func27 rfl Tryz.ntmps27 (Nat.le_of_ble_eq_true rfl) ?_
 refine mwp_facts fun _ hcl => ?_
 rw [List.append_nil] at hcl
 refine mwp_seq <| qR rfl <| qO rfl <| op_alloc' rfl zm24 rfl rfl <| qN <| mwp_seq <| mwp_seq <| qR rfl <| qM rfl rfl rfl <| qC rfl rfl rfl rfl rfl <| qN <| mwp_cond_f rfl (decide_eq_false (by omega)) ?_
 refine mwp_skip <| mwp_seq <| qR rfl <| qM rfl rfl rfl ?_
 refine wOps_op rfl (op_call rfl rfl rfl co44 (((num_reads id).sl h hlen).mono ?_))
 rintro _ _ ⟨rfl, rfl⟩
 rw [num1]
 dsimp only
 refine qO rfl <| op_min2' rfl rfl rfl ((by decide : (if (65536 : Int) < ((1 : Nat) : Int) then (65536 : Int) else ((1 : Nat) : Int)) = 1)) ?_
 refine qO rfl <| op_convInt rfl Tryz.underlying25 Tryz.underlying3 rfl ((by decide : IntKind.i64.wrap 1 = 1)) ?_
 refine qO rfl <| op_build rfl Tryz.underlying24 zm24 (.cons fo24_0 sz3 rfl rfl (Nat.le_of_ble_eq_true rfl) .nil) (by kernel_rfl) ?_
 refine qO rfl <| op_alloc' rfl zm24 rfl rfl <| qO rfl <| op_store_own (by simp) rfl rfl rfl rfl sz24 rfl rfl (Nat.le_of_ble_eq_true rfl) rfl ?_
 refine qN <| mwp_seq <| qR rfl <| qA rfl rfl rfl <| qN <| mwp_seq <| mwp_seq <| qR rfl <| qF rfl rfl rfl fo24_0 <| qO rfl <| op_load_own (by simp) rfl rfl rfl ta3 rfl ?_
 refine qN <| mwp_block <| mwp_seq <| mwp_seq <| qR rfl <| qC rfl rfl rfl rfl rfl <| qA rfl rfl rfl <| qN <| mwp_cond_t rfl (rfl) <| mwp_skip <| mwp_cond_t rfl (rfl) <| mwp_skip <| mwp_seq <| mwp_seq <| qR rfl <| qM rfl rfl rfl <| qM rfl rfl rfl <| qN <| mwp_block ?_
 refine mwp_loopK (α := Nat) [(0, _), (1, _), (4, _), (5, _), (31, _)] (fun i => [(32, .int .i64 (0 : Int))]) (fun i => [.cells [.int .i64 0, .lst0], .cells [.int .i64 1, .lst0]]) (fun i => True) (fun i => 0) (0) (.keep rfl (.keep rfl (.keep rfl (.keep rfl (.keep rfl (.nil)))))) (.keep rfl (.nil)) (trivial) (rfl) ?_
 rintro i _
 refine mwp_seq <| qR rfl <| qC rfl rfl rfl rfl rfl <| qN <| mwp_seq <| mwp_cond_f rfl (rfl) <| mwp_exit <| mwp_seq <| qR rfl <| qO rfl <| op_load_own (by simp) rfl rfl rfl ta24 rfl ?_
 refine qO rfl <| op_store_own (by simp) rfl rfl rfl rfl sz24 rfl rfl (Nat.le_of_ble_eq_true rfl) rfl ?_
 refine qN <| mwp_ret ?_
 exact ret_cellS (y := encS (.mk 1 [])) (by simp) (.inr rfl) Tryz.results27 rfl rfl ta24 rfl (.agg (.cons (.refl _) (.cons (.nil 2) .nil))) (cl_encS _ _) (hcl.set (rd_cl _ _)) ⟨rfl, rfl⟩
theorem nest_schR : ∀ (k : Nat) (deep : Int) (rest : Bs), (k : Int) < deep → deep ≤ 100 → SchR deep (nestC k ++ rest) rest (nestS k)
 | 0, deep, rest, h1, _ => schR_one deep (by omega) rest
 | k + 1, deep, rest, h1, h2 => by
  have ih := nest_schR k (deep - 1) rest (by omega) (by omega)
  have hn := num4 (nestC k ++ rest)
  rw [nestS, nestC, List.cons_append]
  cases hs : nestS k with
  | mk k1 i1 =>
   rw [hs] at ih
   exact schR_map deep (by omega) _ _ rest k1 i1 hn ih
theorem readS_of (b rest : Bs) (k : Int) (ins : List Sch) (hR : SchR 16 b rest (.mk k ins)) (hlen : b.length ≤ 1000000) (S : MS) : MCalls Tryz.prog 10 [.str (bs b)] S fun v σ' => v = .tup [encS (.mk k ins), .str (bs rest), .iface0] ∧ σ' = S := by
 refine mcalls_body Tryz.func10 rfl Tryz.ntmps10 (Nat.le_of_ble_eq_true rfl) ?_
 refine mwp_facts fun _ hcl => ?_
 rw [List.append_nil] at hcl
 refine mwp_seq <| qR rfl <| qO rfl <| op_alloc' rfl zm24 rfl rfl <| qA rfl rfl rfl <| qA rfl rfl rfl <| qN <| mwp_seq <| qR rfl <| qM rfl rfl rfl <| qO rfl <| op_build rfl Tryz.underlying64 zm64 (.cons fo64_0 sz9 rfl rfl (Nat.le_of_ble_eq_true rfl) .nil) (by kernel_rfl) ?_
 refine qB rfl rfl rfl rfl rfl <| qA rfl rfl rfl <| qN <| mwp_seq <| qR rfl ?_
 have hst : (S ++ [MObj.cells [.int .i64 0, .lst0], rdO (b, none)]).set (S.length + 1) (rdO (rest, none)) = S ++ [MObj.cells [.int .i64 0, .lst0], rdO (rest, none)] := by rw [set_own]; rfl
 refine qM rfl rfl rfl ?_
 refine wOps_op rfl (op_call rfl rfl rfl co27 (((hR (S.length + 1) (S ++ [MObj.cells [.int .i64 0, .lst0], rdO (b, none)]) (by rw [getElem?_own]; rfl) hlen)).mono ?_))
 rintro _ _ ⟨rfl, rfl⟩
 rw [hst]
 refine qO rfl <| op_alloc' rfl zm24 rfl rfl <| qO rfl <| op_store' rfl rfl rfl rfl sz24 rfl rfl (Nat.le_of_ble_eq_true rfl) rfl <| qN <| mwp_seq <| mwp_seq <| qR rfl <| qM rfl rfl rfl <| qO rfl <| op_nilCheck rfl rfl rfl <| qF rfl rfl rfl fo64_1 <| qL rfl rfl rfl rfl ta37 rfl <| qO rfl <| op_if0 rfl Tryz.underlying37 rfl rfl (.inr ⟨rfl, rfl⟩) <| qN <| mwp_cond_f rfl (rfl) <| mwp_skip <| mwp_seq ?_
 refine mwp_draw [5] [_, S ++ [.cells (encS (.mk k ins)).cells, rdO (rest, none), .cells (encS (.mk k ins)).cells]] mo (by decide) rfl rfl rfl rfl ?_
 refine dO rfl rfl rfl (op_load' rfl rfl rfl ta24 rfl ⟨rfl, rfl⟩) <| dOps_op rfl rfl (.cons (op_move rfl rfl ⟨rfl, rfl⟩) (.cons (op_move rfl rfl ⟨rfl, rfl⟩) (.nil))) <| dOps_op rfl rfl (.cons (op_nilCheck rfl rfl rfl ⟨rfl, rfl⟩) (.cons (op_nilCheck rfl rfl rfl ⟨rfl, rfl⟩) (.nil))) <| dOps_op rfl rfl (.cons (op_fieldAddr_ref rfl rfl fo64_0 ⟨rfl, rfl⟩) (.cons (op_fieldAddr_ref rfl rfl fo64_0 ⟨rfl, rfl⟩) (.nil))) <| dOps_op rfl rfl (.cons (op_load' rfl rfl rfl ta9 rfl ⟨rfl, rfl⟩) (.cons (op_load' rfl rfl rfl ta9 rfl ⟨rfl, rfl⟩) (.nil))) <| dOps_eff rfl rfl rfl rfl (op_store' rfl rfl rfl rfl sz24 rfl rfl (Nat.le_of_ble_eq_true rfl) rfl ⟨rfl, rfl⟩) <| dO rfl rfl rfl (op_assign rfl rfl ⟨rfl, rfl⟩) <| dO rfl rfl rfl (op_assign rfl rfl ⟨rfl, rfl⟩) <| dOps_nil <| mwp_ret ?_
 exact ret_ctt (y := encS (.mk k ins)) (y2 := .str (bs rest)) (y3 := .iface0) (.inr rfl) Tryz.results10 rfl rfl ta24 rfl (.refl _) (cl_encS _ _) rfl (.refl _) (.str _) rfl (.refl _) .iface0 ⟨rfl, rfl⟩
end Go.Proofs.YthkikhggmbiffaaGreat
end
section
set_option linter.unusedVariables false
set_option linter.unusedSimpArgs false
set_option maxRecDepth 20000
set_option maxHeartbeats 400000
namespace Go.Proofs.YthkikhggmbiffaaGreat
open Go Go.MV Go.RowKit
theorem numB9 : numB 9 = [9] := by rw [numB_lo (by decide)]; rfl
theorem nest_writes (ch : UInt8) (id t : Nat) : ∀ k : Nat, Writes 21 id t [.ref id 0, encS (nestS k), encV (nestV ch k)] (nestB ch k)
 | 0 => by
  have := flat_writes 1 [] (.inl rfl) 9 0 [] [] [] (by decide) (by decide) (by simp) id t
  rw [show flatB 1 (.mk 9 0 [] [] []) = nestB ch 0 from numB9] at this
  exact this
 | k + 1 => by
  have ih := nest_writes ch id t k
  have hb := nestB_ents ch k
  rw [nestS, nestV, ← hb]
  cases hs : nestS k with
  | mk k1 i1 =>
   rw [hs] at ih
   exact map_writes k1 i1 (fun _ => nestB ch k) 0 0 [] [([ch], nestV ch k)] id t (by simp) (by simp) (fun p hp => by
    simp only [List.mem_singleton] at hp
    subst hp
    exact ih)
theorem same_v (a : Val) (S : MS) : MCalls Tryz.prog 11 [encV a, encV a] S fun v σ' => v = .bool true ∧ σ' = S := by
 have := rSame_spec a a S
 rwa [decide_eq_true rfl] at this
theorem nest_bytes (ch : UInt8) (k : Nat) (hk : k < 16) (S : MS) : MCalls Tryz.prog 7 [encS (nestS k), encV (nestV ch k)] S fun v σ' => v = .str (bs (nestB ch k)) ∧ σ' = S :=
 bytes_spec (nestS k) (nestV ch k) (nestB ch k) (nestV_ok ch k) (by rw [nestS_isF k 16 hk, nest_is]; rfl) (fun e => by have := nestB_len ch k; rw [e] at this; simp at this) (by rw [nestB_len]; omega) (fun id t => nest_writes ch id t k) S
theorem nest_read (ch : UInt8) (k : Nat) (hk : k < 16) (S : MS) : MCalls Tryz.prog 9 [encS (nestS k), .str (bs (nestB ch k))] S fun v σ' => v = .tup [encV (nestV ch k), .str (bs []), .iface0] ∧ σ' = S := by
 have hm := nest_back ch k []
 have hf := nestS_isF k 16 hk
 have hi := nest_is ch k
 have ho := nestV_ok ch k
 have hl := nestB_len ch k
 have hr := value_reads 16 _ hf
 rw [List.append_nil] at hm
 cases hs : nestS k with
 | mk k1 i1 =>
  cases hv : nestV ch k with
  | mk n m s c w =>
   rw [hs, hv] at hm hi
   rw [hs] at hf hr
   rw [hv] at ho
   exact read_good k1 i1 hf hr (nestB ch k) [] (by omega) n m s c w hm ho (by rw [hf, hi]; rfl) S
theorem nest_schema (k : Nat) (hk : k < 16) (S : MS) : MCalls Tryz.prog 8 [encS (nestS k)] S fun v σ' => v = .str (bs (nestC k)) ∧ σ' = S := by
 have := schema_spec (nestS k) (nestS_isF k 16 hk) S
 rwa [nestC_eq] at this
theorem nest_readS (k : Nat) (hk : k < 16) (S : MS) : MCalls Tryz.prog 10 [.str (bs (nestC k))] S fun v σ' => v = .tup [encS (nestS k), .str (bs []), .iface0] ∧ σ' = S := by
 have h := nest_schR k 16 [] (by omega) (by omega)
 have hl := nestC_len k
 rw [List.append_nil] at h
 cases hs : nestS k with
 | mk k1 i1 =>
  rw [hs] at h
  exact readS_of (nestC k) [] k1 i1 h (by omega) S
theorem of9_one (k : Int) (s : Sch) (S : MS) : MCalls Tryz.prog 14 [.int .i64 k, .lst none 2 [encS s]] S fun v σ' => v = encS (.mk k [s]) ∧ σ' = S := by
 refine mcalls_body Tryz.func14 rfl Tryz.ntmps14 (Nat.le_of_ble_eq_true rfl) ?_
 refine mwp_seq <| qR rfl <| qO rfl <| op_alloc' rfl zm24 rfl rfl <| qN <| mwp_seq <| qR rfl <| qM rfl rfl rfl <| qM rfl rfl rfl <| qO rfl <| op_build rfl Tryz.underlying24 zm24 (.cons fo24_0 sz3 rfl rfl (Nat.le_of_ble_eq_true rfl) (.cons fo24_1 sz22 rfl rfl (Nat.le_of_ble_eq_true rfl) .nil)) (by kernel_rfl) ?_
 refine qO rfl <| op_store' rfl rfl rfl rfl sz24 rfl rfl (Nat.le_of_ble_eq_true rfl) rfl <| qN <| mwp_ret ?_
 exact ret_cell (y := encS (.mk k [s])) (.inr rfl) Tryz.results14 rfl rfl ta24 rfl (.refl _) (cl_encS _ _) ⟨rfl, rfl⟩
theorem CodeNested_spec (n key : Nat) (hn : n < 256) (hk : key < 256) (S : MS) : MCalls Tryz.prog 4 [.int .u8 (n : Int), .int .u8 (key : Int)] S fun v σ' => v = .bool true ∧ σ' = S := by
 refine mcalls_body Tryz.func4 rfl Tryz.ntmps4 (Nat.le_of_ble_eq_true rfl) ?_
 obtain ⟨q, hqe⟩ : ∃ q, q = n % 16 := ⟨_, rfl⟩
 have hq : q < 16 := by omega
 obtain ⟨ch, hche⟩ : ∃ ch, ch = UInt8.ofNat (97 + key % 26) := ⟨_, rfl⟩
 have hct : ch.toNat = 97 + key % 26 := by rw [hche, u8_toNat (by omega)]
 refine mwp_seq <| qR rfl <| qA rfl rfl rfl <| qN <| mwp_seq <| mwp_seq <| qR rfl ?_
 refine wOps_op rfl (op_call rfl rfl rfl co5 ((known9_spec _).mono ?_))
 rintro _ _ ⟨rfl, rfl⟩
 refine qO rfl <| op_not rfl rfl <| qN <| mwp_cond_f rfl (rfl) <| mwp_skip <| mwp_seq <| qR rfl <| qM rfl rfl rfl <| qO rfl <| op_rem rfl rfl rfl (by decide) (nat_tmod n 16) ?_
 rw [← hqe]
 refine qO rfl <| op_convInt rfl Tryz.underlying5 Tryz.underlying3 rfl (wrap_i64 (by omega)) ?_
 refine qA rfl rfl rfl <| qN <| mwp_seq <| qR rfl ?_
 refine wOps_op rfl (op_call rfl rfl rfl co14 ((of9_spec 1 _).mono ?_))
 rintro _ _ ⟨rfl, rfl⟩
 refine qO rfl <| op_viewTo (y := encV (.mk 9 0 [] [] [])) (op_build rfl Tryz.underlying30 zm30 (.cons fo30_0 sz25 rfl rfl (Nat.le_of_ble_eq_true rfl) .nil) (by kernel_rfl) ⟨rfl, rfl⟩) (.agg (.cons (.refl _) (.cons (.refl _) (.cons (.nil 1) (.cons (.nil 1) (.cons (.nil 5) .nil)))))) ?_
 refine qO rfl <| op_alloc' rfl zm24 rfl rfl <| qO rfl <| op_alloc' rfl zm30 rfl rfl <| qO rfl <| op_store' rfl rfl rfl rfl sz24 rfl rfl (Nat.le_of_ble_eq_true rfl) rfl <| qO rfl <| op_store' rfl rfl rfl rfl sz30 rfl rfl (Nat.le_of_ble_eq_true rfl) rfl <| qN <| mwp_seq <| mwp_seq <| qR rfl <| qA rfl rfl rfl <| qN <| mwp_block ?_
 refine mwp_loopK (α := Nat) [(1, _), (5, _), (6, _), (7, _)] (fun i => [(8, .int .i64 (i : Int))]) (fun i => [.cells (encS (nestS i)).cells, .cells (encV (nestV ch i)).cells]) (fun i => i ≤ q) (fun i => q - i) (0) (.keep rfl (.keep rfl (.keep rfl (.keep rfl (.nil))))) (.keep rfl (.nil)) (by omega) (rfl) ?_
 rintro i hi
 obtain ⟨⟨k0, i0⟩, hsk⟩ : ∃ z, nestS i = z := ⟨_, rfl⟩
 obtain ⟨⟨n0, m0, s0, c0, w0⟩, hvk⟩ : ∃ z, nestV ch i = z := ⟨_, rfl⟩
 rw [hsk, hvk]
 refine mwp_seq <| mwp_seq <| qR rfl <| qM rfl rfl rfl <| qM rfl rfl rfl <| qC rfl rfl rfl rfl rfl <| qN ?_
 refine mwp_cond_split rfl (fun h24 => ?_) (fun h24 => ?_)
 ·
  have hlt : i < q := by simp at h24; omega
  refine mwp_skip <| mwp_seq <| mwp_block <| mwp_seq <| qR rfl <| qL rfl rfl rfl rfl ta24 rfl <| qO rfl <| op_buildSlice rfl Tryz.underlying22 el24 rfl rfl (by decide) (by decide) rfl rfl ?_
  refine wOps_op rfl (op_call rfl rfl rfl co14 ((of9_one 4 (.mk k0 i0) _).mono ?_))
  rintro _ _ ⟨rfl, rfl⟩
  refine qO rfl <| op_store' rfl rfl rfl rfl sz24 rfl rfl (Nat.le_of_ble_eq_true rfl) rfl <| qN <| qR rfl <| qM rfl rfl rfl <| qO rfl <| op_rem rfl rfl rfl (by decide) (nat_tmod key 26) ?_
  refine qO rfl <| op_arith rfl rfl rfl (by show some (IntKind.u8.wrap (97 + ((key % 26 : Nat) : Int))) = some ((ch.toNat : Nat) : Int); simp only [hct]; rw [wrap_u8 (by omega)]; rfl) ?_
  refine qO rfl <| op_buildSlice rfl Tryz.underlying48 el5 rfl rfl (by decide) (by decide) rfl rfl ?_
  refine qO rfl <| op_conv_bytes (l := [ch]) rfl Tryz.underlying48 Tryz.underlying5 Tryz.underlying9 rfl (rfl) <| qO rfl <| op_buildSlice rfl Tryz.underlying26 el9 rfl rfl (by decide) (by decide) rfl rfl ?_
  refine qL rfl rfl rfl rfl ta30 rfl <| qO rfl <| op_buildSlice rfl Tryz.underlying28 el30 rfl rfl (by decide) (by decide) rfl rfl ?_
  refine qO rfl <| op_viewTo (y := encV (.mk 0 0 [[ch]] [] [.mk n0 m0 s0 c0 w0])) (op_build rfl Tryz.underlying30 zm30 (.cons fo30_2 sz26 rfl rfl (Nat.le_of_ble_eq_true rfl) (.cons fo30_4 sz28 rfl rfl (Nat.le_of_ble_eq_true rfl) .nil)) (by kernel_rfl) ⟨rfl, rfl⟩) (.agg (.cons (.refl _) (.cons (.refl _) (.cons (.refl _) (.cons (.nil 1) (.cons (.refl _) .nil)))))) ?_
  refine qO rfl <| op_store' rfl rfl rfl rfl sz30 rfl rfl (Nat.le_of_ble_eq_true rfl) rfl <| qN <| qR rfl <| qM rfl rfl rfl <| qO rfl <| op_arith rfl rfl rfl rfl <| qA rfl rfl rfl <| qN ?_
  refine ⟨i + 1, by omega, by omega, by rw [nestS, nestV, hsk, hvk]; rfl, (.keep rfl (.keep rfl (.keep rfl (.keep rfl (.nil))))), (.eq rfl (int_succ hlt (show q ≤ maxLen by simp only [maxLen]; omega)) (.nil))⟩
 ·
  have hge : i = q := by simp at h24; omega
  rw [← hsk, ← hvk, hge]
  clear hsk hvk
  obtain ⟨⟨k0, i0⟩, hsk⟩ : ∃ z, nestS q = z := ⟨_, rfl⟩
  obtain ⟨⟨n0, m0, s0, c0, w0⟩, hvk⟩ : ∃ z, nestV ch q = z := ⟨_, rfl⟩
  have e1 := nest_schema q hq
  have e2 := nest_readS q hq
  have e3 := nest_bytes ch q hq
  have e4 := nest_read ch q hq
  have e5 := same_self 16 _ (nestS_isF q 16 hq)
  have e6 := same_v (nestV ch q)
  rw [hsk] at e1 e2 e3 e4 e5
  rw [hvk] at e3 e4 e6
  rw [hsk, hvk]
  refine mwp_exit <| mwp_seq <| qR rfl <| qL rfl rfl rfl rfl ta24 rfl ?_
  refine wOps_op rfl (op_call rfl rfl rfl co8 ((e1 _).mono ?_))
  rintro _ _ ⟨rfl, rfl⟩
  refine wOps_op rfl (op_call rfl rfl rfl co10 ((e2 _).mono ?_))
  rintro _ _ ⟨rfl, rfl⟩
  refine qM rfl rfl rfl <| qO rfl <| op_extract rfl rfl rfl <| qO rfl <| op_extract rfl rfl rfl <| qO rfl <| op_extract rfl rfl rfl <| qO rfl <| op_alloc' rfl zm24 rfl rfl <| qO rfl <| op_store' rfl rfl rfl rfl sz24 rfl rfl (Nat.le_of_ble_eq_true rfl) rfl <| qA rfl rfl rfl <| qA rfl rfl rfl <| qN <| mwp_seq ?_
  refine mwp_draw [9, 10] [_, S ++ [.cells (encS (.mk k0 i0)).cells, .cells (encV (.mk n0 m0 s0 c0 w0)).cells, .cells (encS (.mk k0 i0)).cells, .cells [.int .u64 0, .int .u64 0, .lst0, .lst0, .lst0]], S ++ [.cells (encS (.mk k0 i0)).cells, .cells (encV (.mk n0 m0 s0 c0 w0)).cells, .cells (encS (.mk k0 i0)).cells, .cells (encV (.mk n0 m0 s0 c0 w0)).cells]] mo (by decide) rfl rfl rfl rfl ?_
  refine dOps_op rfl rfl (.cons (op_load' rfl rfl rfl ta24 rfl ⟨rfl, rfl⟩) (.cons (op_load' rfl rfl rfl ta24 rfl ⟨rfl, rfl⟩) (.nil))) <| dOps_op rfl rfl (.cons (op_load' rfl rfl rfl ta24 rfl ⟨rfl, rfl⟩) (.cons (op_load' rfl rfl rfl ta24 rfl ⟨rfl, rfl⟩) (.nil))) <| dOps_op rfl rfl (.cons (op_load' rfl rfl rfl ta30 rfl ⟨rfl, rfl⟩) (.cons (op_load' rfl rfl rfl ta30 rfl ⟨rfl, rfl⟩) (.nil))) <| dOps_op rfl rfl (.cons (op_call rfl rfl rfl co7 (e3 _)) (.cons (op_call rfl rfl rfl co7 (e3 _)) (.nil))) <| dOps_op rfl rfl (.cons (op_call rfl rfl rfl co9 (e4 _)) (.cons (op_call rfl rfl rfl co9 (e4 _)) (.nil))) <| dOps_op rfl rfl (.cons (op_move rfl rfl ⟨rfl, rfl⟩) (.cons (op_move rfl rfl ⟨rfl, rfl⟩) (.nil))) <| dOps_op rfl rfl (.cons (op_extract rfl rfl rfl ⟨rfl, rfl⟩) (.cons (op_extract rfl rfl rfl ⟨rfl, rfl⟩) (.nil))) <| dOps_op rfl rfl (.cons (op_extract rfl rfl rfl ⟨rfl, rfl⟩) (.cons (op_extract rfl rfl rfl ⟨rfl, rfl⟩) (.cons (op_extract rfl rfl rfl ⟨rfl, rfl⟩) (.nil)))) <| dOps_op rfl rfl (.cons (op_extract rfl rfl rfl ⟨rfl, rfl⟩) (.cons (op_extract rfl rfl rfl ⟨rfl, rfl⟩) (.cons (op_extract rfl rfl rfl ⟨rfl, rfl⟩) (.nil)))) <| dOps_eff rfl rfl rfl rfl (op_alloc' rfl zm30 rfl rfl ⟨rfl, rfl⟩) <| dOps_eff rfl rfl rfl rfl (op_store' rfl rfl rfl rfl sz30 rfl rfl (Nat.le_of_ble_eq_true rfl) rfl ⟨rfl, rfl⟩) <| dO rfl rfl rfl (op_assign rfl rfl ⟨rfl, rfl⟩) <| dO rfl rfl rfl (op_assign rfl rfl ⟨rfl, rfl⟩) <| dOps_nil <| mwp_seq <| qR rfl <| qM rfl rfl rfl <| qO rfl <| op_if0 rfl Tryz.underlying37 rfl rfl (.inl ⟨rfl, rfl⟩) <| qM rfl rfl rfl <| qL rfl rfl rfl rfl ta24 rfl <| qL rfl rfl rfl rfl ta24 rfl ?_
  refine wOps_op rfl (op_call rfl rfl rfl co12 ((e5 _).mono ?_))
  rintro _ _ ⟨rfl, rfl⟩
  refine qP rfl rfl rfl rfl <| qM rfl rfl rfl <| qM rfl rfl rfl <| qO rfl <| op_if0 rfl Tryz.underlying37 rfl rfl (.inl ⟨rfl, rfl⟩) <| qP rfl rfl rfl rfl <| qM rfl rfl rfl <| qM rfl rfl rfl <| qO rfl <| op_strcmp rfl rfl rfl rfl <| qP rfl rfl rfl rfl <| qM rfl rfl rfl <| qL rfl rfl rfl rfl ta30 rfl <| qL rfl rfl rfl rfl ta30 rfl ?_
  refine wOps_op rfl (op_call rfl rfl rfl co11 ((e6 _).mono ?_))
  rintro _ _ ⟨rfl, rfl⟩
  refine qP rfl rfl rfl rfl <| qM rfl rfl rfl <| qL rfl rfl rfl rfl ta24 rfl <| qL rfl rfl rfl rfl ta30 rfl ?_
  refine wOps_op rfl (op_call rfl rfl rfl co7 ((e3 _).mono ?_))
  rintro _ _ ⟨rfl, rfl⟩
  refine qO rfl <| op_len_bs rfl Tryz.underlying9 rfl <| qM rfl rfl rfl <| qO rfl <| op_arith rfl rfl rfl (wmul (a := 3) (b := q) rfl (by omega)) ?_
  refine qO rfl <| op_arith rfl rfl rfl (wadd (a := 3 * q) (b := 1) rfl (by omega)) ?_
  refine qO rfl <| op_viewTo (y := .bool true) (op_cmp rfl rfl rfl rfl ⟨rfl, rfl⟩) (.of_eq (congrArg MV.bool (by rw [nestB_len]; exact beq_self_eq_true _))) ?_
  refine qP rfl rfl rfl rfl <| qA rfl rfl rfl <| qN <| mwp_ret ?_
  exact ret_tmp (.inr rfl) Tryz.results4 rfl (.of_eq (rfl)) (.bool _) ⟨rfl, rfl⟩
end Go.Proofs.YthkikhggmbiffaaGreat
end
section
set_option linter.unusedVariables false
set_option linter.unusedSimpArgs false
namespace Go.MV
open Go Go.RowKit Go.ChangeShapes Go.WideShapes Go.Deep
def g0 (W : World) : Gh := { B := W.heap.size, w0 := W, st := fun b => match W.heap[b]? with | some (.cells c _ _) => c.size | _ => 0, bk := fun _ => none, lg := fun _ _ => none }
theorem rel0 (W : World) : Rel (g0 W) [] W := by
  refine ⟨.refl _ _, Nat.le_refl _, fun b hb => ?_, fun _ _ => rfl, fun _ _ _ => rfl, fun _ => none, ⟨fun id o h => (by simp at h), fun i j b h => (by cases h), fun id b h => (by cases h)⟩⟩
  show (match W.heap[b]? with | some (.cells c _ _) => c.size | _ => 0) = 0
  rw [Array.getElem?_eq_none hb]
theorem stab0 {W : World} {ad : Addr} {k : Nat} {v : Value} (h : W.cell? (ad.add k) = some v) (h1 : v.oneCell' = true) : Stab (g0 W) W ad k v := by
  refine ⟨?_, h, h1⟩
  have e := cell_spot h
  rw [e] at h
  show _ < (match W.heap[(ad.add k).block]? with | some (.cells c _ _) => c.size | _ => 0)
  unfold World.cell? at h
  split at h
  · rename_i c t f hc
    simp only [Option.isSome_none, Bool.false_eq_true, if_false] at h
    simp only at hc
    rw [hc]
    exact (Array.getElem?_eq_some_iff.1 h).1
  · cases h
def TyFs (T : TypeId → List MV → Prop) : List Field → List MV → Prop
  | [], l => l = []
  | f :: fs, l => ∃ a b, l = a ++ b ∧ T f.type a ∧ TyFs T fs b
def ElF (P : Program) (e : TypeId) (x : MV) : Prop := match P.underlying e with | some (.struct _) => x = .agg x.cells | _ => [x] = x.cells
def TyM (P : Program) : Nat → TypeId → List MV → Prop
  | 0, _, _ => False
  | n + 1, t, l =>
    match P.underlying t with
    | some (.int k) => ∃ v, l = [.int k v] ∧ (Lit.int k v).wf = true
    | some .bool => ∃ b, l = [.bool b]
    | some .string => ∃ s, l = [.str s] ∧ s.size ≤ maxLen
    | some (.slice e) => ∃ xs, l = [.lst none (P.cellsOf e) xs] ∧ ∀ x ∈ xs, x.cells.length = P.cellsOf e ∧ TyM P n e x.cells ∧ ElF P e x
    | some (.struct fs) => TyFs (TyM P n) fs.toList l
    | _ => False
def contig (P : Program) (size : Nat) : List Field → Nat → Bool
  | [], off => Nat.beq off size
  | f :: fs, off => Nat.beq f.offset off && contig P size fs (off + P.cellsOf f.type)
def okTypes (P : Program) (ts : List TypeId) : Bool :=
  ts.all fun t => match P.underlying t with
    | some (.int _) | some .bool | some .string => true
    | some (.slice e) => natMem e ts && (match P.underlying e with | some (.struct _) => true | _ => Nat.beq (P.cellsOf e) 1)
    | some (.struct fs) => fs.toList.all (fun f => natMem f.type ts) && contig P (P.cellsOf t) fs.toList 0
    | _ => false
theorem rds_of_fields {P : Program} {W : World} {T : TypeId → List MV → Prop} {cs : List Value} {size : Nat} (hlen : cs.length = size) : ∀ (fs : List Field) (off : Nat), contig P size fs off = true →
    (∀ f ∈ fs, ∃ l, Rds (g0 W) W l ((cs.drop f.offset).take (P.cellsOf f.type)) ∧ T f.type l ∧ l.length = P.cellsOf f.type ∧ ∀ y ∈ l, y.one = true) → ∃ l, Rds (g0 W) W l (cs.drop off) ∧ TyFs T fs l ∧ ∀ y ∈ l, y.one = true
  | [], off, hc, _ => by
    have := Nat.eq_of_beq_eq_true hc
    refine ⟨[], ?_, rfl, fun y hy => by cases hy⟩
    rw [List.drop_eq_nil_of_le (by omega)]
    exact .nil _ _
  | f :: fs, off, hc, h => by
    simp only [contig, Bool.and_eq_true] at hc
    have ho := Nat.eq_of_beq_eq_true hc.1
    obtain ⟨a, h1, h2, h3, h5⟩ := h f (List.mem_cons_self ..)
    obtain ⟨b, k1, k2, k3⟩ := rds_of_fields hlen fs _ hc.2 (fun f' hf' => h f' (List.mem_cons_of_mem _ hf'))
    refine ⟨a ++ b, ?_, ⟨a, b, rfl, h2, k2⟩, fun y hy => (List.mem_append.1 hy).elim (h5 y) (k3 y)⟩
    have e : cs.drop off = (cs.drop off).take (P.cellsOf f.type) ++ cs.drop (off + P.cellsOf f.type) := by
      rw [← List.drop_drop, List.take_append_drop]
    rw [e]
    rw [ho] at h1
    exact h1.append k1
theorem tyFs_mono {T T' : TypeId → List MV → Prop} (h : ∀ t l, T t l → T' t l) : ∀ (fs : List Field) (l : List MV), TyFs T fs l → TyFs T' fs l
  | [], l, hl => hl
  | f :: fs, l, ⟨a, b, e, h1, h2⟩ => ⟨a, b, e, h _ _ h1, tyFs_mono h fs b h2⟩
theorem tyM_succ {P : Program} : ∀ (n : Nat) (t : TypeId) (l : List MV), TyM P n t l → TyM P (n + 1) t l
  | 0, t, l, h => h.elim
  | n + 1, t, l, h => by
    unfold TyM at h ⊢
    split at h
    · rename_i k hu; exact h
    · rename_i hu; exact h
    · rename_i hu; exact h
    · rename_i e hu
      obtain ⟨xs, h1, h2⟩ := h
      exact ⟨xs, h1, fun x hx => ⟨(h2 x hx).1, tyM_succ n _ _ (h2 x hx).2.1, (h2 x hx).2.2⟩⟩
    · rename_i fs hu; exact tyFs_mono (tyM_succ n) _ _ h
    · exact h.elim
theorem tyM_le {P : Program} {n m : Nat} (h : n ≤ m) {t : TypeId} {l : List MV} (ht : TyM P n t l) : TyM P m t l := by
  obtain ⟨d, rfl⟩ := Nat.le.dest h
  induction d with
  | zero => exact ht
  | succ d ih => exact tyM_succ _ _ _ (ih (by omega))
section
variable {H : Type} {enc : TypeId × Value → H} {P : Program} {W : World} {base : Nat} {spare : Nat → Bool} {held : Bool}
theorem common_bound {α : Type} {p : Nat → α → Prop} (hm : ∀ n m a, n ≤ m → p n a → p m a) : ∀ (l : List α), (∀ a ∈ l, ∃ n, p n a) → ∃ n, ∀ a ∈ l, p n a
  | [], _ => ⟨0, fun a h => by cases h⟩
  | a :: l, h => by
    obtain ⟨n, hn⟩ := h a (List.mem_cons_self ..)
    obtain ⟨m, hm'⟩ := common_bound hm l (fun b hb => h b (List.mem_cons_of_mem _ hb))
    refine ⟨max n m, fun b hb => ?_⟩
    rcases List.mem_cons.1 hb with rfl | hb
    · exact hm _ _ _ (by omega) hn
    · exact hm _ _ _ (by omega) (hm' b hb)
theorem reads_gen {ts : List TypeId} (hok : okTypes P ts = true) : ∀ (n : Nat) (x : DataW H × List MemPlace) (fuel : Nat) (t : TypeId) (cs : List Value), SizeOf.sizeOf x.1 ≤ n → t ∈ ts → DataW.trod enc P W base spare held fuel t cs = some x →
    ∃ (l : List MV) (m : Nat), Rds (g0 W) W l cs ∧ TyM P m t l ∧ ∀ y ∈ l, y.one = true := by
  intro n
  induction n using Nat.strongRecOn with
  | _ n ih =>
  intro x fuel t cs hx ht h
  have hot : (match P.underlying t with
    | some (.int _) | some .bool | some .string => true
    | some (.slice e) => natMem e ts && (match P.underlying e with | some (.struct _) => true | _ => Nat.beq (P.cellsOf e) 1)
    | some (.struct fs) => fs.toList.all (fun f => natMem f.type ts) && contig P (P.cellsOf t) fs.toList 0
    | _ => false) = true := by
    simp only [okTypes, List.all_eq_true] at hok
    exact hok t ht
  split at hot
  · rename_i k hu
    obtain ⟨v, rfl, rfl, hwf⟩ := DataW.trod_int hu h
    refine ⟨[.int k v], 1, .cons (.int _ _) (.nil _ _), ?_, by simp [MV.one]⟩
    unfold TyM
    rw [hu]
    exact ⟨v, rfl, hwf⟩
  · rename_i hu
    obtain ⟨b, rfl, rfl⟩ := DataW.trod_bool hu h
    refine ⟨[.bool b], 1, .cons (.bool _) (.nil _ _), ?_, by simp [MV.one]⟩
    unfold TyM
    rw [hu]
    exact ⟨b, rfl⟩
  · rename_i hu
    obtain ⟨s, rfl, rfl, hs⟩ := DataW.trod_string hu h
    refine ⟨[.str s], 1, .cons (.str _) (.nil _ _), ?_, by simp [MV.one]⟩
    unfold TyM
    rw [hu]
    exact ⟨s, rfl, hs⟩
  · rename_i e hu
    simp only [Bool.and_eq_true] at hot
    have he : e ∈ ts := natMem_iff.1 hot.1
    rcases open_slice hu h with ⟨rfl, rfl⟩ | ⟨a, len, cap, m, n', D, Pl, rfl, hb, hl, hm, hmm, rfl, hi⟩
    · refine ⟨[.lst none (P.cellsOf e) []], 1, .cons (Sub.nil _ _ _ _ .lst0) (.nil _ _), ?_, by simp [MV.one]⟩
      unfold TyM
      rw [hu]
      exact ⟨[], rfl, fun x hx => by cases hx⟩
    · have hlm : len ≤ m := by rw [hmm]; split <;> omega
      have hel : ∀ i, i < len → ∃ (l : List MV) (k : Nat) (us : List Value), us.length = P.cellsOf e ∧ Rds (g0 W) W l us ∧ TyM P k e l ∧ (∀ y ∈ l, y.one = true) ∧ ∀ j, j < P.cellsOf e → W.cell? ((a.add (i * P.cellsOf e)).add j) = us[j]? := by
        intro i hil
        obtain ⟨cs', hc, ht'⟩ := hi i (by omega)
        obtain ⟨_, hlen, hcell⟩ := World.cells?_some hc
        have hsz : SizeOf.sizeOf (D i) < n := by
          have hmem : D i ∈ (List.range len).map D := List.mem_map.2 ⟨i, List.mem_range.2 hil, rfl⟩
          have := List.sizeOf_lt_of_mem hmem
          simp only [DataW.slice.sizeOf_spec] at hx
          omega
        obtain ⟨l, k, h1, h2, h3⟩ := ih _ hsz (D i, Pl i) n' e cs' (Nat.le_refl _) he ht'
        exact ⟨l, k, cs', hlen, h1, h2, h3, hcell⟩
      have hall : ∀ (N : Nat), N ≤ len → ∃ (xs : List MV) (us : List Value) (k : Nat), xs.length = N ∧ us.length = N * P.cellsOf e ∧ Rds (g0 W) W (flat xs) us ∧ (∀ y ∈ flat xs, y.one = true) ∧ (∀ x ∈ xs, x.cells.length = P.cellsOf e ∧ TyM P k e x.cells ∧ ElF P e x) ∧
          ∀ j, j < N * P.cellsOf e → W.cell? (a.add j) = us[j]? := by
        intro N
        induction N with
        | zero => exact fun _ => ⟨[], [], 0, rfl, by simp, .nil _ _, by simp [flat], by simp, by simp⟩
        | succ N ihN =>
          intro hN
          obtain ⟨xs, us, k, q1, q2, q3, q4, q5, q6⟩ := ihN (by omega)
          obtain ⟨l, k', us', r1, r2, r3, r4, r5⟩ := hel N (by omega)
          have hll : l.length = P.cellsOf e := by rw [← r2.1, r1]
          obtain ⟨y, hy1, hy2⟩ : ∃ y : MV, y.cells = l ∧ ElF P e y := by
            cases hue : P.underlying e with
            | none => 
              have hk1 : P.cellsOf e = 1 := by have := hot.2; rw [hue] at this; exact Nat.eq_of_beq_eq_true this
              match l, hll.trans hk1 with
              | [y], _ =>
                have := r4 y (List.mem_cons_self ..)
                simp only [ElF, hue]
                refine ⟨y, ?_, ?_⟩ <;> (cases y <;> first | rfl | (cases this; done))
            | some d =>
              cases d with
              | struct fs => exact ⟨.agg l, rfl, by simp only [ElF, hue]; rfl⟩
              | _ =>
                have hk1 : P.cellsOf e = 1 := by have := hot.2; rw [hue] at this; exact Nat.eq_of_beq_eq_true this
                match l, hll.trans hk1 with
                | [y], _ =>
                  have := r4 y (List.mem_cons_self ..)
                  simp only [ElF, hue]
                  refine ⟨y, ?_, ?_⟩ <;> (cases y <;> first | rfl | (cases this; done))
          refine ⟨xs ++ [y], us ++ us', max k k', by simp [q1], by rw [List.length_append, q2, r1, Nat.add_mul]; omega, ?_, ?_, ?_, ?_⟩
          · rw [flat_append]
            refine q3.append ?_
            simp only [flat, List.flatMap_cons, List.flatMap_nil, List.append_nil, hy1]
            exact r2
          · intro z hz
            rw [flat_append, List.mem_append] at hz
            rcases hz with hz | hz
            · exact q4 z hz
            · simp only [flat, List.flatMap_cons, List.flatMap_nil, List.append_nil, hy1] at hz
              exact r4 z hz
          · intro x hx
            rcases List.mem_append.1 hx with hx | hx
            · exact ⟨(q5 x hx).1, tyM_le (by omega) (q5 x hx).2.1, (q5 x hx).2.2⟩
            · simp at hx
              subst hx
              rw [hy1]
              exact ⟨hll, tyM_le (by omega) r3, hy2⟩
          · intro j hj
            rw [Nat.add_mul, Nat.one_mul] at hj
            by_cases hjl : j < N * P.cellsOf e
            · rw [List.getElem?_append_left (by omega)]
              exact q6 j hjl
            · rw [List.getElem?_append_right (by omega), q2, ← r5 (j - N * P.cellsOf e) (by omega), Go.MV.add_add]
              congr 2
              omega
      obtain ⟨xs, us, k, q1, q2, q3, q4, q5, q6⟩ := hall len (Nat.le_refl _)
      refine ⟨[.lst none (P.cellsOf e) xs], k + 1, .cons (.lst' q1 hl hm (fun x hx => (q5 x hx).1) q3 (fun j u hu => ⟨a, rfl, stab0 ?_ ?_⟩) (fun t ht => by cases ht)) (.nil _ _), ?_, by simp [MV.one]⟩
      · have hj : j < us.length := (List.getElem?_eq_some_iff.1 hu).1
        rw [q6 j (by omega)]
        exact hu
      · have hj : j < us.length := (List.getElem?_eq_some_iff.1 hu).1
        have hjf : j < (flat xs).length := by rw [← q3.1]; exact hj
        exact one_cell (q3.2 j _ u (List.getElem?_eq_getElem hjf) hu) (q4 _ (List.getElem_mem hjf))
      · unfold TyM
        rw [hu]
        exact ⟨xs, rfl, q5⟩
  · rename_i fs hu
    simp only [Bool.and_eq_true, List.all_eq_true] at hot
    obtain ⟨xs, n', rfl, rfl, hlen, hxl, hf⟩ := DataW.trod_struct hu h
    have hfld : ∀ f ∈ fs.toList, ∃ (k : Nat) (l : List MV), Rds (g0 W) W l ((cs.drop f.offset).take (P.cellsOf f.type)) ∧ TyM P k f.type l ∧ ∀ y ∈ l, y.one = true := by
      intro f hfm
      obtain ⟨i, hi⟩ := List.getElem?_of_mem hfm
      have hi' : fs[i]? = some f := by simpa using hi
      have hilt : i < xs.length := by rw [hxl]; exact (Array.getElem?_eq_some_iff.1 hi').1
      have htr := hf i f hi'
      rw [List.getElem?_eq_getElem hilt] at htr
      have hsz : SizeOf.sizeOf xs[i].1 < n := by
        have hmem : xs[i].1 ∈ xs.map (·.1) := List.mem_map.2 ⟨xs[i], List.getElem_mem hilt, rfl⟩
        have := List.sizeOf_lt_of_mem hmem
        simp only [DataW.agg.sizeOf_spec] at hx
        omega
      obtain ⟨l, k, h1, h2, h3⟩ := ih _ hsz xs[i] n' f.type _ (Nat.le_refl _) (natMem_iff.1 (hot.1 f hfm)) htr
      exact ⟨k, l, h1, h2, h3⟩
    obtain ⟨K, hK⟩ := common_bound (p := fun k (f : Field) => ∃ l : List MV, Rds (g0 W) W l ((cs.drop f.offset).take (P.cellsOf f.type)) ∧ TyM P k f.type l ∧ ∀ y ∈ l, y.one = true) (fun a b f hab ⟨l, h1, h2, h3⟩ => ⟨l, h1, tyM_le hab h2, h3⟩) fs.toList hfld
    have hcont := hot.2
    have hlens : ∀ (gs : List Field) (off : Nat), contig P (P.cellsOf t) gs off = true → off ≤ P.cellsOf t ∧ ∀ f ∈ gs, f.offset + P.cellsOf f.type ≤ P.cellsOf t := by
      intro gs
      induction gs with
      | nil => exact fun off hc => ⟨Nat.le_of_eq (Nat.eq_of_beq_eq_true hc), fun f hf => by cases hf⟩
      | cons f gs ihg =>
        intro off hc
        simp only [contig, Bool.and_eq_true] at hc
        have ho := Nat.eq_of_beq_eq_true hc.1
        obtain ⟨h1, h2⟩ := ihg _ hc.2
        refine ⟨by omega, fun f' hf' => ?_⟩
        rcases List.mem_cons.1 hf' with rfl | hf'
        · omega
        · exact h2 f' hf'
    obtain ⟨l, h1, h2, h3⟩ := rds_of_fields (P := P) (W := W) (T := TyM P K) hlen fs.toList 0 hcont (fun f hfm => by
      obtain ⟨l, h1, h2, h3⟩ := hK f hfm
      refine ⟨l, h1, h2, ?_, h3⟩
      have := (hlens _ _ hcont).2 f hfm
      rw [← h1.1, List.length_take, List.length_drop, hlen]
      omega)
    refine ⟨l, K + 1, by simpa using h1, ?_, h3⟩
    unfold TyM
    rw [hu]
    exact h2
  · cases hot
end
section
variable {H : Type} {enc : TypeId × Value → H} {P : Program} {W : World} {base b0 : Nat} {spare : Nat → Bool} {held : Bool} {r : Reach}
theorem arg_one {ts : List TypeId} (hok : okTypes P ts = true) {t : TypeId} (ht : t ∈ ts) {v : Value} {d : DataW H} {p : List MemPlace} (hv : v.cells = #[v]) (h : DataW.Trod enc P W base spare held t v d p) :
    ∃ (l : List MV) (m : Nat), Rds (g0 W) W l [v] ∧ TyM P m t l := by
  obtain ⟨fuel, hf⟩ := h
  rw [hv] at hf
  obtain ⟨l, m, h1, h2, _⟩ := reads_gen hok _ _ _ _ _ (Nat.le_refl _) ht hf
  exact ⟨l, m, h1, h2⟩
end
theorem law_calls {P : Program} {f : FuncId} {xs : List MV} {W : World} {vs : List Value} (h : MCalls P f xs [] fun v σ' => v = .bool true ∧ σ' = []) (hr : Rds (g0 W) W xs vs) : Calls P f vs.toArray W fun e w' => e = .returned (.bool true) ∧ Below W.heap.size W w' := by
  refine (callsIn_wide.1 (h (g0 W) W vs (rel0 W) hr)).mono ?_
  rintro e w' ⟨v, rfl, x, σ', g', ⟨rfl, rfl⟩, hrel, hrd, hle⟩
  rw [hrd.inv_bool]
  have := hrel.below
  rw [hle.B, hle.w0] at this
  exact ⟨rfl, this⟩
end Go.MV
end
section
set_option linter.unusedVariables false
set_option linter.unusedSimpArgs false
namespace Go.MV
open Go Go.RowKit Go.WideShapes Go.ChangeShapes
section
variable {H : Type} {enc : TypeId × Value → H} {P : Program} {W : World} {base b0 : Nat} {spare : Nat → Bool} {held : Bool} {r : Reach} {ts : List TypeId} {t : TypeId} {v : Value} {d : DataW H} {p : List MemPlace}
theorem tyM_intK {k : IntKind} (hu : P.underlying t = some (.int k)) {n : Nat} {l : List MV} (h : TyM P n t l) : ∃ v, l = [.int k v] ∧ (Lit.int k v).wf = true := by
  cases n with
  | zero => exact h.elim
  | succ n => unfold TyM at h; rw [hu] at h; exact h
theorem rd_of_rds {g : Gh} {w : World} {m : MV} {v : Value} (h : Rds g w [m] [v]) : Rd g w m v := h.2 0 _ _ rfl rfl
theorem arg_int {k : IntKind} (hok : okTypes P ts = true) (ht : t ∈ ts) (hu : P.underlying t = some (.int k)) (hv : Value.okWide P W r b0 t v) (h : DataW.Trod enc P W base spare held t v d p) : ∃ n, Rd (g0 W) W (.int k n) v ∧ (Lit.int k n).wf = true := by
  obtain ⟨n, rfl⟩ := okWide_int hu hv
  obtain ⟨l, m, h1, h2⟩ := arg_one hok ht rfl h
  obtain ⟨n', rfl, hw⟩ := tyM_intK hu h2
  exact ⟨n', rd_of_rds h1, hw⟩
theorem wf_u8 {n : Int} (h : (Lit.int .u8 n).wf = true) : ∃ m : Nat, n = (m : Int) ∧ m ≤ 255 := by
  simp [Lit.wf, IntKind.min, IntKind.max, IntKind.signed, IntKind.bits] at h
  exact ⟨n.toNat, by omega, by omega⟩
end
end Go.MV
end
