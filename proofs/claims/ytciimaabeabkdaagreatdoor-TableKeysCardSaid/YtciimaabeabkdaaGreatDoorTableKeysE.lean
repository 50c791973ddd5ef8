/-
  Texts on which the proof of TableKeys leans: part 5.
-/
import Derived.Test.YtciimaabeabkdaaGreatDoorTableKeysD
import Derived.Lib.Builder
import Derived.Stop.Asserts
import Derived.Deep.Slices
import Derived.ChangeSame
import Derived.ProofKit
import Derived.OpenShut
import Derived.ChangeOld
import Derived.SizedLaws
import Derived.Carry
import Derived.Test.YtciimaabeabkdaaGreatDoorRows
set_option linter.unusedVariables false
set_option linter.unusedSimpArgs false
set_option maxRecDepth 20000
set_option maxHeartbeats 8000000
namespace Go.MV
open Go Go.RowKit
section
theorem Rel.retype {g : Gh} {σ : MS} {w : World} (h : Rel g σ w) {id b : Nat} {l : List MV} {us : List Value} {ty : TypeId} (hσ : σ[id]? = some (.cells l)) (hb : g.bk id = some b) (hh : w.heap[b]? = some (.cells us.toArray ty (0, 0))) : Rel g (σ.set id (.tcells ty l)) w := by
 obtain ⟨own, hown⟩ := h.ex
 obtain ⟨b', us', ty', e1, e2, e3, ⟨fr, e4, _⟩, e5⟩ := hown.obj _ _ hσ
 rw [hb] at e2; injection e2 with e2; subst e2
 rw [hh] at e4; injection e4 with e4; injection e4 with e4 e6 e7
 have e4' : us = us' := by simpa using congrArg Array.toList e4
 subst e4'
 refine ⟨h.below, h.base, h.fresh, fun i hi => h.bkn i (by simpa using hi), fun t k ht => h.lgn t k (by simpa using ht), own, ⟨fun i ob hi => ?_, hown.inj, fun i c hc => by simpa using hown.lt i c hc⟩⟩
 rw [List.getElem?_set] at hi
 by_cases e : id = i
 ·subst e
  rw [if_pos rfl] at hi
  split at hi
  ·injection hi with hi
   subst hi
   exact ⟨b, us, e1, hb, e3, hh, e5⟩
  ·cases hi
 ·rw [if_neg e] at hi
  exact hown.obj i ob hi
theorem Rel.untype {g : Gh} {σ : MS} {w : World} (h : Rel g σ w) {id : Nat} {l : List MV} {ty : TypeId} (hσ : σ[id]? = some (.tcells ty l)) : Rel g (σ.set id (.cells l)) w := by
 obtain ⟨own, hown⟩ := h.ex
 obtain ⟨b, us, e1, e2, e3, e4, e5⟩ := hown.obj _ _ hσ
 refine ⟨h.below, h.base, h.fresh, fun i hi => h.bkn i (by simpa using hi), fun t k ht => h.lgn t k (by simpa using ht), own, ⟨fun i ob hi => ?_, hown.inj, fun i c hc => by simpa using hown.lt i c hc⟩⟩
 rw [List.getElem?_set] at hi
 by_cases e : id = i
 ·subst e
  rw [if_pos rfl] at hi
  split at hi
  ·injection hi with hi
   subst hi
   exact ⟨b, us, ty, e1, e2, e3, ⟨_, e4, .inl rfl⟩, e5⟩
  ·cases hi
 ·rw [if_neg e] at hi
  exact hown.obj i ob hi
section
variable {P : Program} {rd : Option Nat} {o : Oper} {env : Env} {σ : MS} {K : MV → MS → Prop}
theorem op_boxT {t : TypeId} {x : Operand} {m : MV} (ho : o.op = .box t x) (hx : evo env x = some m) (h : K (.ref σ.length 0) (σ ++ [.tcells t m.cells])) : OpWp P rd o env σ K := by
 refine OpWp.of_run (by simp [ho]) fun g w a hr hop => ?_
 obtain ⟨us, e, k1⟩ := rds_cells (hop x (by simp [ho, Op.operands]) _ hx)
 obtain ⟨g', h1, h2, h3⟩ := hr.alloc_obj k1 t
 have hr' := h1.retype (id := σ.length) (l := m.cells) (us := us) (ty := t) (by simp) h3 (heap_new w _)
 have hset : (σ ++ [MObj.cells m.cells]).set σ.length (.tcells t m.cells) = σ ++ [.tcells t m.cells] := by simp
 rw [hset] at hr'
 refine ⟨.pointer (some ⟨w.heap.size, 0, none⟩), w.alloc (.cells us.toArray t), ?_, ⟨_, _, g', h, hr', .ref _ _ _ h3, h2⟩⟩
 simp [execOp, ho, Instr.box, newVar, newRow, e]
theorem op_load_T {t ty : TypeId} {x : Operand} {id off : Nat} {l : List MV} {ta : Option Nat} {m : MV} (ho : o.op = .load t x) (hx : evo env x = some (.ref id off)) (hσ : σ[id]? = some (.tcells ty l)) (ht : tyAgg P t = some ta) (hm : loadMV ta l off = some m) (h : K m σ) : OpWp P rd o env σ K := by
 refine OpWp.of_run (by simp [ho]) fun g w a hr hop => ?_
 obtain ⟨b, hb, e⟩ := (hop x (by simp [ho, Op.operands]) _ hx).inv_ref
 obtain ⟨own, hown⟩ := hr.ex
 obtain ⟨b', us, e1, e2, e3, e4, e5⟩ := hown.obj _ _ hσ
 rw [hb] at e2
 injection e2 with e2
 subst e2
 obtain ⟨v, hv, hy⟩ := run_loadVar_at ht (e5.drop off) (fun j u hu => cells_at e4 off j hu) (loadMV_drop hm)
 refine ⟨v, w, ?_, .same h hr hy⟩
 simp [execOp, ho, e, Instr.loadAt, Instr.sureAddr, hv]
theorem _root_.zV5 : type_of% @op_load_T := @op_load_T
theorem op_store_T {t ty : TypeId} {x y : Operand} {id off : Nat} {l : List MV} {m : MV} {k : Nat} (ho : o.op = .store t x y) (hx : evo env x = some (.ref id off)) (hy : evo env y = some m) (hσ : σ[id]? = some (.tcells ty l)) (hk : szOf P t = some k) (hm : m.cells.length = k)
  (h1 : m.cells.all MV.one = true) (hle : off + k ≤ l.length) (h : K (.tup []) (σ.set id (.tcells ty (setMany l off m.cells)))) : OpWp P rd o env σ K := by
 refine OpWp.of_skip (by simp [ho]) fun g w a hr0 hop => ?_
 have hidl : id < σ.length := (zD.1 hσ).1
 have hr := hr0.untype hσ
 have hσ' : (σ.set id (.cells l))[id]? = some (.cells l) := by rw [List.getElem?_set_self hidl]
 obtain ⟨b, hb, e⟩ := (hop x (by simp [ho, Op.operands]) _ hx).inv_ref
 have hrd := hop y (by simp [ho, Op.operands]) _ hy
 obtain ⟨us, hus, hrds⟩ := rds_cells hrd
 obtain ⟨own, hown⟩ := hr0.ex
 obtain ⟨b', old, e1, e2, e3, e4, e5⟩ := hown.obj _ _ hσ
 rw [hb] at e2; injection e2 with e2; subst e2
 have hlen : us.length = k := by rw [hrds.1, hm]
 have hone : ∀ v ∈ us, v.oneCell' = true := by
  intro v hv
  obtain ⟨j, hj⟩ := List.getElem?_of_mem hv
  have hjl : j < m.cells.length := by rw [hm, ← hlen]; exact (zD.1 hj).1
  have := hrds.2 j _ v (zC hjl) hj
  rw [List.all_eq_true] at h1
  exact one_cell this (h1 _ (List.getElem_mem hjl))
 have hrun := run_storeCells_fr P b off ty (0, 0) us 0 old.toArray w e4 (.inl rfl) (by rw [hlen]; simpa [e5.1] using hle) hone
 obtain ⟨hrel, hl⟩ := hr.store hσ' hrds (by rw [hm]; exact hle) hb e4
 have hrel' := hrel.retype (id := id) (by rw [List.getElem?_set_self (by simpa using hidl)]) hb (setRow_heap w b _ _ ty _ e4)
 have hset : ((σ.set id (MObj.cells l)).set id (.cells (setMany l off m.cells))).set id (.tcells ty (setMany l off m.cells)) = σ.set id (.tcells ty (setMany l off m.cells)) := by
  rw [List.set_set, List.set_set]
 rw [hset] at hrel'
 refine ⟨_, ?_, .tup [], _, g, h, hrel', rd_undef _ _, hl⟩
 have hsz : (a.eval y).cells.size = k := by rw [hus]; simpa using hlen
 have hst : (storeVar t ⟨b, off, none⟩ (a.eval y)).run P w = (storeCells ⟨b, off, none⟩ us).run P w := by
  simp [storeVar, zC5 hk, hsz, hus, hlen]
 simp only [execOp, ho, e, Instr.storeAt, Instr.sureAddr, Sem.run_bind, Sem.run_pure, Result.andThen_ok, hst, hrun, Nat.add_zero]
theorem op_toUnsafe {t t' e ty : TypeId} {x : Operand} {id k : Nat} {l : List MV} (ho : o.op = .convert t t' x) (hs : P.underlying t = some (.pointer e)) (hd : P.underlying t' = some .unsafePointer) (hk : szOf P e = some k) (hk0 : k ≠ 0) (hx : evo env x = some (.ref id 0)) (hσ : σ[id]? = some (.tcells ty l)) (hl : 0 < l.length) (h : K (.ref id 0) σ) : OpWp P rd o env σ K := by
 refine OpWp.of_run (by simp [ho]) fun g w a hr hop => ?_
 have hrd := hop x (by simp [ho, Op.operands]) _ hx
 obtain ⟨b, hb, e0⟩ := hrd.inv_ref
 obtain ⟨own, hown⟩ := hr.ex
 obtain ⟨b', us, e1, e2, e3, e4, e5⟩ := hown.obj _ _ hσ
 rw [hb] at e2; injection e2 with e2; subst e2
 obtain ⟨i, hi, hz⟩ : ∃ i, P.info? e = some i ∧ i.size = k := by
  unfold szOf at hk
  split at hk
  ·rename_i i hi
   injection hk with hk
   exact ⟨i, hi, hk⟩
  ·cases hk
 refine ⟨.pointer (some ⟨b, 0, none⟩), w, ?_, .same h hr (.ref _ _ _ hb)⟩
 have hrun := Lib.run_to_unsafe (P := P) w ⟨b, 0, none⟩ hs hd hi (by rw [hz]; exact hk0) (e := ty) (cells := us.length) (by simp [World.shape?, e4]) (by rw [e5.1]; exact hl)
 simp [execOp, ho, e0, hrun]
theorem op_fromUnsafe {t t' e ty : TypeId} {x : Operand} {id k : Nat} {l : List MV} (ho : o.op = .convert t t' x) (hs : P.underlying t = some .unsafePointer) (hd : P.underlying t' = some (.pointer e)) (hk : szOf P e = some k) (hx : evo env x = some (.ref id 0)) (hσ : σ[id]? = some (.tcells ty l)) (hlies : liesAt P P.depth ty (l.length / P.cellsOf ty) 0 e 1 = true) (h : K (.ref id 0) σ) : OpWp P rd o env σ K := by
 refine OpWp.of_run (by simp [ho]) fun g w a hr hop => ?_
 obtain ⟨b, hb, e0⟩ := (hop x (by simp [ho, Op.operands]) _ hx).inv_ref
 obtain ⟨own, hown⟩ := hr.ex
 obtain ⟨b', us, e1, e2, e3, e4, e5⟩ := hown.obj _ _ hσ
 rw [hb] at e2; injection e2 with e2; subst e2
 obtain ⟨i, hi, hz⟩ : ∃ i, P.info? e = some i ∧ i.size = k := by
  unfold szOf at hk
  split at hk
  ·rename_i i hi
   injection hk with hk
   exact ⟨i, hi, hk⟩
  ·cases hk
 refine ⟨.pointer (some ⟨b, 0, none⟩), w, ?_, .same h hr (.ref _ _ _ hb)⟩
 have hrun := Lib.run_from_unsafe (P := P) w ⟨b, 0, none⟩ hs hd hi (e := ty) (cells := us.length) (by simp [World.shape?, e4]) (by rw [e5.1]; exact hlies)
 simp [execOp, ho, e0, hrun]
theorem op_ptrsame {b : BinOp} {r : Bool} {t e t' : TypeId} {x y : Operand} {id off k : Nat} (ho : o.op = .binOp b t x y t') (hu : P.underlying t = some (.pointer e)) (hk : szOf P e = some k) (hk0 : k ≠ 0) (hx : evo env x = some (.ref id off)) (hy : evo env y = some (.ref id off)) (hb : b = .eql ∧ r = true ∨ b = .neq ∧ r = false) (h : K (.bool r) σ) : OpWp P rd o env σ K := by
 refine OpWp.of_run (by rcases hb with ⟨rfl, rfl⟩ | Vv <;> simp [ho]) fun g w a hr hop => ?_
 obtain ⟨b1, hb1, e1⟩ := (hop x (by simp [ho, Op.operands]) _ hx).inv_ref
 obtain ⟨b2, hb2, e2⟩ := (hop y (by simp [ho, Op.operands]) _ hy).inv_ref
 rw [hb1] at hb2; injection hb2 with hb2; subst hb2
 refine ⟨.bool r, w, ?_, .same h hr (.bool _)⟩
 have h9 : ∀ d : Nat, (Op.equalIn (d + 1) t (.pointer (some ⟨b1, off, none⟩)) (.pointer (some ⟨b1, off, none⟩))).run P w = .ok true w := fun d => by
  simp [Op.equalIn, run_underlying hu, zC5 hk, hk0, sameAddr]
 rcases hb with ⟨rfl, rfl⟩ | ⟨rfl, rfl⟩ <;> (simp only [execOp, ho, e1, e2, Sem.run_bind, Sem.run_pure]; simp [eqGuard, binOp, Op.equal, Op.maxDepth, h9 9999])
end
theorem Rel.recellT {g : Gh} {σ : MS} {w : World} (h : Rel g σ w) {id : Nat} {ty : TypeId} {l l' : List MV} (hσ : σ[id]? = some (.tcells ty l)) (hl : ∀ us, Rds g w l us → Rds g w l' us) : Rel g (σ.set id (.tcells ty l')) w := by
 refine ⟨h.below, h.base, h.fresh, fun i hi => h.bkn i (by simpa using hi), fun t n ht => h.lgn t n (by simpa using ht), ?_⟩
 obtain ⟨own, ho⟩ := h.ex
 refine ⟨own, ⟨fun i o hi => ?_, ho.inj, fun i b hi => by have := ho.lt i b hi; exact ⟨by simpa using this.1, this.2⟩⟩⟩
 rw [List.getElem?_set] at hi
 split at hi
 ·rename_i e
  subst e
  split at hi
  ·injection hi with hi
   subst hi
   obtain ⟨b, us, h1, h2, h3, h4, h5⟩ := ho.obj _ _ hσ
   exact ⟨b, us, h1, h2, h3, h4, hl us h5⟩
  ·cases hi
 ·exact ho.obj i o hi
theorem mwp_cellrowT {P : Program} {rd : Option Nat} {N n : Nat} {c : Code} {Q : Exit → Env → MS → Prop} {env : Env} {S L L' : MS} (k i ty sz : Nat) {m tt : Nat} {l : List MV} (hk : L[k]? = some (.tcells tt l)) (hi : l[i]? = some .lst0) (hN : N ≤ S.length) (hm : L.length = m) (hL : L.set k (.tcells tt (l.set i (.lst (some (S.length + m)) sz []))) ++ [.row ty sz 0] = L') (h : mwp P rd N n c Q env (S ++ L')) : mwp P rd N n c Q env (S ++ L) := by
 subst hm hL
 refine mwp_ghost (fun g w tmps hr he => ?_) h
 obtain ⟨r1, l1, d1⟩ := tok_new hr ty sz
 have hlen : (S ++ L).length = S.length + L.length := zE
 refine ⟨_, ?_, he.mono l1, l1.toN N, fun F hF => hF.mono (l1.toN N)⟩
 have hlt := (zD.1 hk).1
 have e : S ++ (L.set k (.tcells tt (l.set i (.lst (some (S.length + L.length)) sz []))) ++ [.row ty sz 0]) = ((S ++ L) ++ [MObj.row ty sz 0]).set (S.length + k) (.tcells tt (l.set i (.lst (some (S.length + L.length)) sz []))) := by
  rw [zO, set_own, List.set_append_left _ _ hlt]
 rw [e]
 refine r1.recellT (l := l) (by rw [zO, getElem?_own, List.getElem?_append_left hlt]; exact hk) fun us hus => ?_
 obtain ⟨u, hu, hrd⟩ := hus.get hi
 have hs := hus.set i (x := .lst (some (S.length + L.length)) sz []) (u := u) (by rw [hrd.inv_lst0, ← hlen]; exact d1)
 obtain ⟨hul, hue⟩ := zD.1 hu
 rwa [show us.set i u = us by rw [← hue]; exact List.set_getElem_self hul] at hs
end
end Go.MV
namespace Go.Proofs.YtciimaabeabkdaaGreatDoor
open Go Go.MV Go.RowKit
theorem run_same {P : Program} {k : FuncId} {fn : Func} (hf : P.funcs[k]? = some fn) (hname : (fn.name == "runtime.NumGoroutine") = false) (hb : fn.body.isNone = true) (hn : Extern.findNext fn = none) (he : Extern.find fn = some Extern.AbiNoEscape.same) (v : Value) (w : World) :
  (callFunc k #[v]).run P w = .ok (.value v) w := by
 rw [run_callFunc_extern hf hname hb hn he, Go.Lib.run_noEscape]
 rfl
theorem op_same {P : Program} {rd : Option Nat} {o : Oper} {env : Env} {σ : MS} {K : MV → MS → Prop} {f x : Operand} {k : FuncId} {fn : Func} {m : MV} {ts : Array TypeId} (ho : o.op = .call { callee := .value f, args := #[x], argTypes := ts }) (hf : evo env f = some (.fn (.func k) [] [])) (hfn : P.funcs[k]? = some fn) (hname : (fn.name == "runtime.NumGoroutine") = false) (hb : fn.body.isNone = true) (hn : Extern.findNext fn = none) (he : Extern.find fn = some Extern.AbiNoEscape.same) (hx : evo env x = some m) (h : K m σ) : OpWp P rd o env σ K := by
 refine OpWp.of_run (by simp [ho]) fun g w a hr hop => ?_
 obtain ⟨us, vs, e, k1, k2⟩ := (hop f (by simp [ho, Op.operands, Call.operands]) _ hf).inv_fn
 have hrd := hop x (by simp [ho, Op.operands, Call.operands]) _ hx
 have e1 : us = [] := List.eq_nil_of_length_eq_zero k1.1
 have e2 : vs = [] := List.eq_nil_of_length_eq_zero k2.1
 subst e1 e2
 have hrun := run_same (P := P) hfn hname hb hn he (a.eval x) w
 refine ⟨a.eval x, w, ?_, .same h hr hrd⟩
 simp [execOp, ho, resolve, e, Deferred.ofValue, invoke, hrun]
theorem get_slO {S L : MS} {id : Nat} {o : MObj} (h : S[id]? = some o) : (S ++ L)[id]? = some o := get_sl h
theorem _root_.zI3 : type_of% @get_slO := @get_slO
theorem set_slO {S L : MS} {id : Nat} {o p : MObj} (h : S[id]? = some p) : (S ++ L).set id o = S.set id o ++ L := List.set_append_left _ _ (zD.1 h).1
theorem cls_tc {S : MS} {id : Nat} {ty : TypeId} {l : List MV} (h : ClS S) (hl : ∀ x ∈ l, Cl S.length x) : ClS (S.set id (.tcells ty l)) := by
 intro i o ho
 rw [List.length_set]
 rcases List.mem_or_eq_of_mem_set (zW ho) with hm | rfl
 ·obtain ⟨j, hj⟩ := List.getElem?_of_mem hm
  exact h j o hj
 ·exact hl
theorem _root_.zP5 : type_of% @Tryz.underlying117 := @Tryz.underlying117
theorem check_new (id : Nat) (q : MV) (S : MS) (h : S[id]? = some (.tcells 232 [.ptr0, q])) : MCalls Tryz.prog 171 [.ref id 0] S fun v σ' => v = .tup [] ∧ σ' = S.set id (.tcells 232 [.ref id 0, q]) := by
 refine zR Tryz.func171 V Tryz.ntmps171 (zA V) ?_
 refine zG1 fun _ hcl => ?_
 rw [List.append_nil] at hcl
 have hidl := (zD.1 h).1
 refine zB <| qR V <| qM V V V <| qO V <| zY0 V V V <| qF V V V fo119_0 <| qO V <| zV5 V V (zI3 h) ta117 V <| qO V <| op_ptr0 V zP5 V V (.inl Vv) <| qN <| zU V (V) <| qR V <| qM V V V <| qM V V V <| qO V <| op_toUnsafe V zP5 Tryz.underlying239 (k := 2) (by kernel_rfl) (by decide) V (zI3 h) (by simp) ?_
 refine qO V <| op_same V V Tryz.func217 (by kernel_rfl) (by kernel_rfl) (by kernel_rfl) (by kernel_rfl) V ?_
 refine qO V <| op_fromUnsafe V Tryz.underlying239 zP5 (k := 2) (by kernel_rfl) V (zI3 h) (by kernel_rfl) ?_
 refine qO V <| zY0 V V V <| qF V V V fo119_0 <| qO V <| op_store_T V V V (zI3 h) sz117 V V (zA V) ?_
 rw [set_slO h]
 refine qN ?_
 exact zN2 (by simp) Tryz.results171 (by simp) (cls_tc hcl (fun x hx => by
   have hob := hcl id _ h
   rcases List.mem_cons.1 hx with rfl | hx
   ·exact .ref _ _ hidl
   ·exact hob x (.tail _ hx))) ⟨rfl, rfl⟩
theorem check_used (id : Nat) (q : MV) (S : MS) (h : S[id]? = some (.tcells 232 [.ref id 0, q])) : MCalls Tryz.prog 171 [.ref id 0] S fun v σ' => v = .tup [] ∧ σ' = S := by
 refine zR Tryz.func171 V Tryz.ntmps171 (zA V) ?_
 refine zG1 fun _ hcl => ?_
 rw [List.append_nil] at hcl
 refine zB <| qR V <| qM V V V <| qO V <| zY0 V V V <| qF V V V fo119_0 <| qO V <| zV5 V V (zI3 h) ta117 V <| qO V <| op_ptrnil V zP5 V V V (.inl Vv) <| qN <| zK V (V) <| zB <| qR V <| qM V V V <| qO V <| zY0 V V V <| qF V V V fo119_0 <| qO V <| zV5 V V (zI3 h) ta117 V <| qM V V V <| qO V <| op_ptrsame V zP5 (k := 2) (by kernel_rfl) (by decide) V V (.inr Vv) ?_
 refine qN <| zK V (V) <| zX ?_
 exact zN2 (by simp) Tryz.results171 (by simp) hcl Vv
theorem set_self_o {S : MS} {id : Nat} {o : MObj} (h : S[id]? = some o) : S.set id o = S := by
 obtain ⟨hl, e⟩ := zD.1 h
 rw [← e, List.set_getElem_self]
theorem get_neO {S : MS} {i k : Nat} {o p : MObj} (hne : i ≠ k) (h : S[k]? = some p) : (S.set i o)[k]? = some p := by rw [List.getElem?_set_ne hne]; exact h
theorem ret_tmp2S {P : Program} {fn : Func} {S S' L : MS} {R : MV → MS → Prop} {env : Env} {e : Exit} {t t' : Nat} {x y x' y' : MV} (he : e = .normal ∨ e = .ret) (hres : fn.results = #[.tmp t, .tmp t']) (hx : get env t = some x) (hx' : get env t' = some x') (hs : Sub x y) (hs' : Sub x' y') (hc : Cl S'.length y) (hc' : Cl S'.length y') (hl : S.length ≤ S'.length) (hS : ClS S') (hR : R (.tup [y, y']) S') : BodyQ P fn S R e env (S' ++ L) := by
 refine ⟨he, [x, x'], .tup [y, y'], S', L, ?_, .tup (.cons hs (.cons hs' .nil)), .tup _ (fun z hz => ?_), rfl, hl, .inr hS, hR⟩
 ·rw [hres]
  exact .tmp hx (.tmp hx' .nil)
 ·simp at hz
  rcases hz with rfl | rfl
  ·exact hc
  ·exact hc'
def prO (id t : Nat) (l : Bs) : MObj := .tcells 232 [.ref id 0, .lst (some t) 1 (l.map encY)]
def pr (S : MS) (id t : Nat) (l : Bs) : MS := (S.set id (prO id t l)).set t (.row 5 1 l.length)
theorem pr_len (S : MS) (id t : Nat) (l : Bs) : (pr S id t l).length = S.length := by simp [pr]
theorem _root_.zL2 : type_of% @pr_len := @pr_len
theorem check_spec (id : Nat) (p q : MV) (hp : p = .ptr0 ∨ p = .ref id 0) (S : MS) (h : S[id]? = some (.tcells 232 [p, q])) : MCalls Tryz.prog 171 [.ref id 0] S fun v σ' => v = .tup [] ∧ σ' = S.set id (.tcells 232 [.ref id 0, q]) := by
 rcases hp with rfl | rfl
 ·exact check_new id q S h
 ·refine (check_used id q S h).mono fun v σ' hv => ⟨hv.1, ?_⟩
  rw [hv.2, set_self_o h]
theorem cls_pr {S : MS} {id t : Nat} {l : Bs} (h : ClS S) (hid : id < S.length) (ht : t < S.length) : ClS (pr S id t l) := by
 have h1 : ClS (S.set id (prO id t l)) := cls_tc h fun x hx => by
  rcases List.mem_cons.1 hx with rfl | hx
  ·exact .ref _ _ hid
  ·rcases List.mem_cons.1 hx with rfl | hx
   ·exact cl_lstT ht (fun y => .int _ _) (fun y => .inr rfl)
   ·cases hx
 intro i o ho
 unfold pr at ho ⊢
 rw [List.length_set]
 rcases List.mem_or_eq_of_mem_set (zW ho) with hm | rfl
 ·obtain ⟨j, hj⟩ := List.getElem?_of_mem hm
  exact h1 j o hj
 ·exact trivial
theorem pr_norm {S : MS} {id t n : Nat} {a o : MObj} (hne : id ≠ t) : ((S.set id a).set t (.row 5 1 n)).set id o = (S.set id o).set t (.row 5 1 n) := by
 rw [List.set_comm _ _ hne.symm, List.set_set]
theorem write_spec (id t : Nat) (p : MV) (hp : p = .ptr0 ∨ p = .ref id 0) (l s : Bs) (hne : id ≠ t) (S : MS) (h : S[id]? = some (.tcells 232 [p, .lst (some t) 1 (l.map encY)])) (ht : S[t]? = some (.row 5 1 l.length)) (hlen : l.length + s.length ≤ 10000000) : MCalls Tryz.prog 125 [.ref id 0, .str (bs s)] S fun v σ' => v = .tup [.int .i64 (s.length : Int), .iface0] ∧ σ' = pr S id t (l ++ s) := by
 refine zR Tryz.func125 V Tryz.ntmps125 (zA V) ?_
 refine zG1 fun _ hcl => ?_
 rw [List.append_nil] at hcl
 have hidl := (zD.1 h).1
 have htl := (zD.1 ht).1
 have h1 : (S.set id (.tcells 232 [.ref id 0, .lst (some t) 1 (l.map encY)]))[id]? = some (.tcells 232 [.ref id 0, .lst (some t) 1 (l.map encY)]) := get_set h
 have ht1 : (S.set id (.tcells 232 [.ref id 0, .lst (some t) 1 (l.map encY)]))[t]? = some (.row 5 1 l.length) := get_neO hne ht
 have h2 : ((S.set id (.tcells 232 [.ref id 0, .lst (some t) 1 (l.map encY)])).set t (.row 5 1 (l.length + s.length)))[id]? = some (.tcells 232 [.ref id 0, .lst (some t) 1 (l.map encY)]) := get_neO hne.symm h1
 refine zB <| qR V <| qA V V V <| qA V V V <| qN <| zB <| qR V <| qM V V V ?_
 refine qX V V V V co171 (check_spec id p _ hp (S ++ []) (zI3 h)) ?_
 rw [set_slO h]
 refine qN <| zB <| qR V <| qM V V V <| qM V V V <| qO V <| zY0 V V V <| qF V V V fo119_1 <| qO V <| zV5 V V (zI3 h1) ta47 V <| qM V V V <| qO V <| op_appendS V zS0 zL0 el5 V V (zI3 ht1) (by simp) (by omega) (by omega) ?_
 rw [set_slO ht1]
 refine qO V <| zY0 V V V <| qF V V V fo119_1 <| qO V <| op_store_T V V V (zI3 h2) sz47 V V (zA V) ?_
 rw [set_slO h2]
 refine qN <| zB <| qR V <| qM V V V <| qO V <| zO3 V zL0 V <| qA V V V <| qA V V V ?_
 have hE : ((S.set id (.tcells 232 [.ref id 0, .lst (some t) 1 (l.map encY)])).set t (.row 5 1 (l.length + s.length))).set id (.tcells 232 [.ref id 0, .lst (some t) 1 (l.map encY ++ s.map encY)]) = pr S id t (l ++ s) := by
  rw [← List.map_append, ← zE]
  exact pr_norm hne
 refine qN <| zH ?_
 exact ret_tmp2S (.inr V) Tryz.results125 V V (.refl _) (.refl _) (.int _ _) .iface0 (by simp) (by
   have := cls_pr (l := l ++ s) hcl hidl htl
   rw [← hE] at this
   exact this) ⟨rfl, hE⟩
theorem cls_gone {S : MS} {t : Nat} (h : ClS S) : ClS (S.set t .gone) := by
 intro i o ho
 rw [List.length_set]
 rcases List.mem_or_eq_of_mem_set (zW ho) with hm | rfl
 ·obtain ⟨j, hj⟩ := List.getElem?_of_mem hm
  exact h j o hj
 ·exact trivial
theorem string_spec (id t : Nat) (l : Bs) (hl0 : l ≠ []) (hne : id ≠ t) (S : MS) (h : S[id]? = some (.tcells 232 [.ref id 0, .lst (some t) 1 (l.map encY)])) (ht : S[t]? = some (.row 5 1 l.length)) (hlen : l.length ≤ 10000000) : MCalls Tryz.prog 66 [.ref id 0] S fun v σ' => v = .str (bs l) ∧ σ' = S.set t .gone := by
 refine zR Tryz.func66 V Tryz.ntmps66 (zA V) ?_
 refine zG1 fun _ hcl => ?_
 rw [List.append_nil] at hcl
 have htl := (zD.1 ht).1
 have hg1 : (S.set t MObj.gone)[id]? = some (.tcells 232 [.ref id 0, .lst (some t) 1 (l.map encY)]) := get_neO hne.symm h
 have hg2 : (S.set t MObj.gone ++ [MObj.pin 5 l])[id]? = some (.tcells 232 [.ref id 0, .lst (some t) 1 (l.map encY)]) := zI3 hg1
 refine zB <| qR V <| qA V V V <| qN <| zB ?_
 refine zW0 [4, 10] [_, (S.set t .gone) ++ [MObj.pin 5 l], (S.set t .gone) ++ [MObj.gone]] mo (by decide) V V V V ?_
 refine zN V V (.cons (zY V V Vv) (.cons (zY V V Vv) (.cons (zY V V Vv) (.nil)))) <| zN V V (.cons (zY0 V V V Vv) (.cons (zY0 V V V Vv) (.cons (zY0 V V V Vv) (.nil)))) <| zN V V (.cons (zG V V fo119_1 Vv) (.cons (zG V V fo119_1 Vv) (.cons (zG V V fo119_1 Vv) (.nil)))) <| dO V V V (zV5 V V (by first | exact zI3 h | exact zI3 hg1 | exact zI3 hg2) ta47 V Vv) ?_
 refine zV0 V V V V (op_sliceData V V hl0 (zI3 ht) V ⟨rfl, by rw [List.append_nil]⟩) ?_
 refine zN V V (.cons (zY V V Vv) (.cons (zY V V Vv) (.cons (zY V V Vv) (.nil)))) <| zN V V (.cons (zY0 V V V Vv) (.cons (zY0 V V V Vv) (.cons (zY0 V V V Vv) (.nil)))) <| zN V V (.cons (zG V V fo119_1 Vv) (.cons (zG V V fo119_1 Vv) (.cons (zG V V fo119_1 Vv) (.nil)))) <| zN V V (.cons (zV5 V V (by first | exact zI3 h | exact zI3 hg1 | exact zI3 hg2) ta47 V Vv) (.cons (zV5 V V (by first | exact zI3 h | exact zI3 hg1 | exact zI3 hg2) ta47 V Vv) (.cons (zV5 V V (by first | exact zI3 h | exact zI3 hg1 | exact zI3 hg2) ta47 V Vv) (.nil)))) ?_
 refine zN V V (.cons (zU1 V zS0 V Vv) (.cons (zU1 V zS0 V Vv) (.nil))) <| zV0 V V V V (op_unsafeString V Tryz.underlying197 (by kernel_rfl) V V (by rw [zF]) hl0 (by simp only [maxLen]; omega) (by rw [List.append_nil]; simp) ⟨rfl, by rw [List.append_nil]; simp⟩) ?_
 refine dO V V V (zZ0 V V Vv) <| zQ0 <| zH ?_
 exact ret_tmpS (.inr V) Tryz.results66 V (.refl _) (.str _) (by simp) (cls_gone hcl) Vv
end Go.Proofs.YtciimaabeabkdaaGreatDoor
namespace Go.Proofs.YtciimaabeabkdaaGreatDoor
open Go Go.MV Go.RowKit Go.Extern.Stop Go.Extern
theorem nilErr2 (v : Value) (w : World) : (binOp .eql 43 .nilIface (.iface 49 v)).run Tryz.prog w = .ok (.bool false) w := by
 have h : ∀ d : Nat, (Op.equalIn (d + 1) 43 .nilIface (.iface 49 v)).run Tryz.prog w = .ok false w := fun d => by simp [Op.equalIn, run_underlying zA0]
 simp only [binOp]
 simp [Op.equal, Op.maxDepth, h 9999]
theorem nilNil (w : World) : (binOp .eql 43 .nilIface .nilIface).run Tryz.prog w = .ok (.bool true) w := by
 have h : ∀ d : Nat, (Op.equalIn (d + 1) 43 .nilIface .nilIface).run Tryz.prog w = .ok true w := fun d => by simp [Op.equalIn, run_underlying zA0]
 simp only [binOp]
 simp [Op.equal, Op.maxDepth, h 9999]
theorem isNone (m : Int) (w : World) : Calls Tryz.prog 18 #[.nilIface, .iface 49 (.int .i64 m)] w fun e w' => e = .returned (.bool false) ∧ w' = w := by
 have h1 := nilNil w
 have h2 := nilErr2 (.int .i64 m) w
 go_enter Tryz.func18, Tryz.ntmps18
 go_wp2
 go_ret
 exact ⟨rfl, rfl⟩
end Go.Proofs.YtciimaabeabkdaaGreatDoor
namespace Go.Proofs.YtciimaabeabkdaaGreatDoor
open Go Go.MV Go.RowKit
structure RdT {γ : Type} (id l : Nat) (T : RdS → γ → MS) : Prop where
 get : ∀ r c, (T r c)[id]? = some (rdO r)
 set : ∀ r r' c, (T r c).set id (rdO r') = T r' c
 len : ∀ r c, (T r c).length = l
 cls : ∀ r c, ClS (T r c)
def rowGoC {α γ : Type} (f : RdS → γ → α × RdS × γ) : Nat → List α → RdS → γ → List α × RdS × γ
 | 0, acc, r, c => (acc, r, c)
 | k + 1, acc, r, c => if r.2.isSome then ([], r, c) else rowGoC f k (acc ++ [(f r c).1]) (f r c).2.1 (f r c).2.2
def rowStart (r : RdS) : RdS := if 40 < (numM r).1 then failR 13 (numM r).2 else (numM r).2
def rowC {α γ : Type} (f : RdS → γ → α × RdS × γ) (r : RdS) (c : γ) : List α × RdS × γ := rowGoC f (numM r).1 [] (rowStart r) c
def OneOk {α γ : Type} (I : Nat → γ → Prop) (kc : FuncId) (fi ca : List MV) (en : α → MV) (T : RdS → γ → MS) (f : RdS → γ → α × RdS × γ) : Prop := ∀ j r c L, j < 40 → I j c → r.1.length ≤ 8000000 → r.2 = none → MCalls Tryz.prog kc (fi ++ [] ++ ca) (T r c ++ L) fun v σ' => v = en (f r c).1 ∧ σ' = T (f r c).2.1 (f r c).2.2 ++ L
theorem get_lastO {A : MS} {l : Nat} {o : MObj} (h : A.length = l) : (A ++ [o])[l]? = some o := by subst h; simp
theorem own_getS {S S1 L : MS} {k : Nat} (h : S1.length = S.length) : (S1 ++ L)[S.length + k]? = L[k]? := by rw [← h, getElem?_own]
theorem RdT.base {S : MS} {id : Nat} {r : RdS} (h : S[id]? = some (rdO r)) (hcl : ClS S) : RdT (γ := Unit) id S.length (fun r _ => S.set id (rdO r)) where
 get _ _ := get_set h
 set _ _ _ := set_set
 len _ _ := by simp
 cls r _ := hcl.set (rd_cl _ r)
def unitF {α : Type} (M : RdS → α × RdS) (r : RdS) (_ : Unit) : α × RdS × Unit := ((M r).1, (M r).2, ())
theorem OneOk.base {α : Type} {kc : FuncId} {fi ca : List MV} {en : α → MV} {M : RdS → α × RdS} {S : MS} {id : Nat} {r0 : RdS} (h : S[id]? = some (rdO r0)) (hm : Reads kc (fi ++ [] ++ ca) id en M) : OneOk (γ := Unit) (fun _ _ => True) kc fi ca en (fun r _ => S.set id (rdO r)) (unitF M) := fun _ r c L _ _ hl _ => by
 have := hm.sl (r := r) (S := S.set id (rdO r)) (L := L) (get_set h) hl
 rw [set_set] at this
 exact this
theorem op_load_own {P : Program} {rd : Option Nat} {o : Oper} {env : Env} {K : MV → MS → Prop} {S S1 L : MS} {t : TypeId} {x : Operand} {k off : Nat} {l : List MV} {ta : Option Nat} {m : MV} (hlen : S1.length = S.length) (ho : o.op = .load t x) (hx : evo env x = some (.ref (S.length + k) off)) (hσ : L[k]? = some (.cells l)) (ht : tyAgg P t = some ta) (hm : loadMV ta l off = some m) (h : K m (S1 ++ L)) : OpWp P rd o env (S1 ++ L) K :=
 zJ ho hx (by rw [own_getS hlen]; exact hσ) ht hm h
theorem _root_.zI1 : type_of% @op_load_own := @op_load_own
structure PrAt (S : MS) (id t : Nat) (l : Bs) : Prop where
 ne : id ≠ t
 ob : ∃ p, (p = .ptr0 ∨ p = .ref id 0) ∧ S[id]? = some (.tcells 232 [p, .lst (some t) 1 (l.map encY)])
 row : S[t]? = some (.row 5 1 l.length)
theorem PrAt.idl {S : MS} {id t : Nat} {l : Bs} (h : PrAt S id t l) : id < S.length := by
 obtain ⟨p, _, hp⟩ := h.ob
 exact (zD.1 hp).1
theorem PrAt.tl {S : MS} {id t : Nat} {l : Bs} (h : PrAt S id t l) : t < S.length := (zD.1 h.row).1
theorem PrAt.pr {S : MS} {id t : Nat} {l : Bs} (h : PrAt S id t l) (m : Bs) : PrAt (pr S id t m) id t m := by
 refine ⟨h.ne, ⟨_, .inr rfl, ?_⟩, ?_⟩
 ·unfold Go.Proofs.YtciimaabeabkdaaGreatDoor.pr prO
  exact get_neO h.ne.symm (by rw [List.getElem?_set_self h.idl])
 ·unfold Go.Proofs.YtciimaabeabkdaaGreatDoor.pr
  rw [List.getElem?_set_self (by simpa using h.tl)]
theorem PrAt.sl {S : MS} {id t : Nat} {l : Bs} (h : PrAt S id t l) (L : MS) : PrAt (S ++ L) id t l := by
 obtain ⟨p, hp, ho⟩ := h.ob
 exact ⟨h.ne, ⟨p, hp, zI3 ho⟩, zI3 h.row⟩
theorem pr_sl {S : MS} {id t : Nat} {l m : Bs} (h : PrAt S id t l) (L : MS) : pr (S ++ L) id t m = pr S id t m ++ L := by
 unfold pr
 rw [List.set_append_left _ _ h.idl, List.set_append_left _ _ (by simpa using h.tl)]
theorem pr_pr {S : MS} {id t : Nat} {l m n : Bs} (h : PrAt S id t l) : pr (pr S id t m) id t n = pr S id t n := by
 unfold pr
 rw [List.set_comm _ _ h.ne.symm, List.set_set, List.set_set]
theorem write_at {S : MS} {id t : Nat} {l : Bs} (h : PrAt S id t l) (s : Bs) (hlen : l.length + s.length ≤ 10000000) (L : MS) : MCalls Tryz.prog 125 [.ref id 0, .str (bs s)] (S ++ L) fun v σ' => v = .tup [.int .i64 (s.length : Int), .iface0] ∧ σ' = pr S id t (l ++ s) ++ L := by
 obtain ⟨p, hp, ho⟩ := (h.sl L).ob
 refine (write_spec id t p hp l s h.ne _ ho (h.sl L).row hlen).mono fun v σ' hv => ⟨hv.1, ?_⟩
 rw [hv.2, pr_sl h]
def Writes (k : FuncId) (id t : Nat) (xs : List MV) (s : Bs) : Prop := ∀ (l : Bs) (S : MS), PrAt S id t l → l.length + s.length ≤ 8000000 → MCalls Tryz.prog k xs S fun v σ' => v = .tup [] ∧ σ' = pr S id t (l ++ s)
theorem Writes.sl {k : FuncId} {id t : Nat} {xs : List MV} {s l : Bs} (hw : Writes k id t xs s) {S : MS} (h : PrAt S id t l) (hl : l.length + s.length ≤ 8000000) (L : MS) : MCalls Tryz.prog k xs (S ++ L) fun v σ' => v = .tup [] ∧ σ' = pr S id t (l ++ s) ++ L :=
 (hw l (S ++ L) (h.sl L) hl).mono fun v σ' hv => ⟨hv.1, by rw [hv.2, pr_sl h]⟩
def WritesN (k : FuncId) (id t : Nat) (xs : List MV) (s : Bs) : Prop := ∀ (l : Bs) (S : MS), PrAt S id t l → l.length + s.length ≤ 9000000 → MCalls Tryz.prog k xs S fun v σ' => v = .tup [] ∧ σ' = pr S id t (l ++ s)
theorem WritesN.sl {k : FuncId} {id t : Nat} {xs : List MV} {s l : Bs} (hw : WritesN k id t xs s) {S : MS} (h : PrAt S id t l) (hl : l.length + s.length ≤ 9000000) (L : MS) : MCalls Tryz.prog k xs (S ++ L) fun v σ' => v = .tup [] ∧ σ' = pr S id t (l ++ s) ++ L :=
 (hw l (S ++ L) (h.sl L) hl).mono fun v σ' hv => ⟨hv.1, by rw [hv.2, pr_sl h]⟩
theorem flat_len {s : List Bs} (h : ∀ x ∈ s, x.length ≤ 1000) : ∀ i, ((s.take i).flatMap textB).length ≤ i * 1003
 | 0 => by simp
 | i + 1 => by
  have ih := flat_len h i
  rw [List.take_add_one, List.flatMap_append, zE]
  cases hs : s[i]? with
  | none => simp only [Option.toList_none, List.flatMap_nil, List.length_nil]; omega
  | some x =>
   have hx := h x (zW hs)
   have := (numB_len (show x.length < 2097152 by omega)).2
   simp only [Option.toList_some, List.flatMap_cons, List.flatMap_nil, List.append_nil, textB, zE]
   omega
theorem flat_take {s : List Bs} {i : Nat} {x : Bs} (h : s[i]? = some x) : (s.take (i + 1)).flatMap textB = (s.take i).flatMap textB ++ textB x := by
 rw [List.take_add_one, h, List.flatMap_append]
 simp
theorem numB_len10 : ∀ k m : Nat, m < 128 ^ (k + 1) → (numB m).length ≤ k + 1
 | 0, m, h => by rw [numB_lo (by simpa using h)]; simp
 | k + 1, m, h => by
  by_cases hm : m < 128
  ·rw [numB_lo hm]; simp
  ·have := numB_len10 k (m / 128) (by rw [Nat.pow_succ] at h; omega)
   rw [numB_hi hm]
   simp
   exact this
theorem _root_.zN3 : type_of% @numB_len10 := @numB_len10
theorem num_writes (id t n : Nat) (hn : n < 18446744073709551616) : WritesN 194 id t [.ref id 0, .int .u64 (n : Int)] (numB n) := by
 intro l S h hl
 have hnl := zN3 9 n (by omega)
 refine zR Tryz.func194 V Tryz.ntmps194 (zA V) ?_
 refine zG1 fun _ hcl => ?_
 rw [List.append_nil] at hcl
 refine zW0 [5] [_, pr S id t (l ++ numB n) ++ []] mo (by decide) V V V V ?_
 refine zN V V (.cons (zY V V Vv) (.cons (zY V V Vv) (.nil))) <| zN V V (.cons (zY0 V V V Vv) (.cons (zY0 V V V Vv) (.nil))) <| dO V V V (zG V V fo232_0 Vv) <| zN V V (.cons (zY V V Vv) (.cons (zY V V Vv) (.nil))) <| zN V V (.cons (zT0 V V V co170 (codeNum_spec n hn (by omega) _)) .nil) ?_
 refine zV0 V V V V (zT0 V V V co125 (write_at h (numB n) (by omega) [])) ?_
 refine zQ0 ?_
 exact zN2 (by simp) Tryz.results194 (by rw [zL2]; exact Nat.le_refl _) (cls_pr hcl h.idl h.tl) Vv
theorem _root_.zF4 : type_of% @num_writes := @num_writes
def flatB (k : Int) : Val → Bs
 | .mk n _ s _ _ => if k = 3 then rowB textB s else numB n.toNat
theorem _root_.zG4 : type_of% @Tryz.ntmps153 := @Tryz.ntmps153
theorem _root_.zU3 : type_of% @Tryz.results153 := @Tryz.results153
theorem flat_writes (k : Int) (ins : List Sch) (hk : k = 1 ∨ k = 2 ∨ k = 3) (n m : Int) (s : List Bs) (c : List (List Tk)) (w : List Val) (hn : 0 ≤ n ∧ n < 18446744073709551616) (hsl : s.length ≤ 1000) (hs0 : ∀ x ∈ s, x.length ≤ 1000) (id t : Nat) : Writes 153 id t [.ref id 0, encS (.mk k ins), encV (.mk n m s c w)] (flatB k (.mk n m s c w)) := by
 intro l S h hl
 rcases hk with rfl | rfl | rfl
 ·
  obtain ⟨n, rfl⟩ : ∃ q : Nat, n = (q : Int) := ⟨n.toNat, by omega⟩
  refine zR zA4 V zG4 (zA V) ?_
  refine zG1 fun _ hcl => ?_
  rw [List.append_nil] at hcl
  have hlen' : s.length ≤ maxLen := by simp only [maxLen]; omega
  have hnb := zN3 9 s.length (by omega)
  refine zB <| qR V <| qB V V V V V <| qB V V V V V <| qN <| zB <| qR V <| qF V V V zB2 <| qO V <| zI1 (by simp [zL2]) V V V ta3 V ?_
  refine qN <| zB0 <| zB <| zB <| qR V <| qC V V V V V <| qA V V V <| qN <| zU V (V) <| zX <| zU V (V) <| qR V <| qM V V V <| qF V V V zX3 <| qO V <| zI1 (by simp [zL2]) V V V ta22 V ?_
  refine qX V V V V co194 ((zF4 id t n (by omega)).sl h (by have hl2 : l.length + (numB n).length ≤ 8000000 := hl; omega) _) ?_
  refine qN ?_
  exact zN2 (by simp) zU3 (by rw [zL2]; exact Nat.le_refl _) (cls_pr hcl h.idl h.tl) Vv
 ·
  obtain ⟨n, rfl⟩ : ∃ q : Nat, n = (q : Int) := ⟨n.toNat, by omega⟩
  refine zR zA4 V zG4 (zA V) ?_
  refine zG1 fun _ hcl => ?_
  rw [List.append_nil] at hcl
  have hlen' : s.length ≤ maxLen := by simp only [maxLen]; omega
  have hnb := zN3 9 s.length (by omega)
  refine zB <| qR V <| qB V V V V V <| qB V V V V V <| qN <| zB <| qR V <| qF V V V zB2 <| qO V <| zI1 (by simp [zL2]) V V V ta3 V ?_
  refine qN <| zB0 <| zB <| zB <| qR V <| qC V V V V V <| qA V V V <| qN <| zK V (V) <| qR V <| qC V V V V V <| qA V V V <| qN <| zU V (V) <| qR V <| qM V V V <| qF V V V zX3 <| qO V <| zI1 (by simp [zL2]) V V V ta22 V ?_
  refine qX V V V V co194 ((zF4 id t n (by omega)).sl h (by have hl2 : l.length + (numB n).length ≤ 8000000 := hl; omega) _) ?_
  refine qN ?_
  exact zN2 (by simp) zU3 (by rw [zL2]; exact Nat.le_refl _) (cls_pr hcl h.idl h.tl) Vv
 ·
  obtain ⟨n, rfl⟩ : ∃ q : Nat, n = (q : Int) := ⟨n.toNat, by omega⟩
  refine zR zA4 V zG4 (zA V) ?_
  refine zG1 fun _ hcl => ?_
  rw [List.append_nil] at hcl
  have hlen' : s.length ≤ maxLen := by simp only [maxLen]; omega
  have hnb := zN3 9 s.length (by omega)
  refine zB <| qR V <| qB V V V V V <| qB V V V V V <| qN <| zB <| qR V <| qF V V V zB2 <| qO V <| zI1 (by simp [zL2]) V V V ta3 V ?_
  refine qN <| zB0 <| zB <| zB <| qR V <| qC V V V V V <| qA V V V <| qN <| zK V (V) <| qR V <| qC V V V V V <| qA V V V <| qN <| zK V (V) <| zB <| zB <| qR V <| qC V V V V V <| qA V V V <| qN <| zU V (V) <| zX <| zU V (V) <| zB ?_
  refine qR V <| qM V V V <| qF V V V zZ2 <| qO V <| zI1 (by simp [zL2]) V V V ta23 V ?_
  refine qE V V zE0 V <| qO V <| zL3 V zX2 zD3 V (zK5 (by rw [zF]; omega)) ?_
  rw [zF]
  refine qX V V V V co194 ((zF4 id t s.length (by omega)).sl h (by rw [flatB, if_pos rfl, rowB, zE] at hl; omega) _) ?_
  refine qN <| zB <| qR V <| qF V V V zZ2 <| qO V <| zI1 (by simp [zL2]) V V V ta23 V ?_
  refine qE V V zE0 V <| qM V V V <| qN <| zB0 ?_
  show mwp _ _ _ _ _ _ _ (([] : MS) ++ (pr S id t (l ++ numB s.length) ++ [.cells (encS (.mk 3 ins)).cells, .cells (encV (.mk n m s c w)).cells]))
  refine zK2 (α := Nat) [(0, _), (4, _), (5, _), (61, _), (62, _)] (fun i => [(63, .int .i64 (i : Int))]) (fun i => (pr S id t (l ++ numB s.length ++ (s.take i).flatMap textB) ++ [.cells (encS (.mk 3 ins)).cells, .cells (encV (.mk n m s c w)).cells])) (fun i => i ≤ s.length) (fun i => s.length - i) (0) (.keep V (.keep V (.keep V (.keep V (.keep V (.nil)))))) (.keep V (.nil)) (by omega) (by simp) ?_
  rintro i hi
  show mwp _ _ _ _ _ _ _ (pr S id t (l ++ numB s.length ++ (s.take i).flatMap textB) ++ [.cells (encS (.mk 3 ins)).cells, .cells (encV (.mk n m s c w)).cells])
  have hw := h.pr (l ++ numB s.length ++ (s.take i).flatMap textB)
  have hfl := flat_len hs0 i
  refine zB <| qR V <| qC V V V V V <| qN <| zB ?_
  refine zM V (fun h64 => ?_) (fun h64 => ?_)
  ·
   have hlt : i < s.length := by simpa using h64
   obtain ⟨x, hs⟩ : ∃ q_, s[i]? = some q_ := ⟨_, zC hlt⟩
   refine zX <| zB <| zB0 <| zB <| qR V <| qM V V V <| qO V <| zI V zE0 sz9 (by decide) V V V (zM1 hs) ?_
   refine qO V <| zL V V ta9 V <| qA V V V <| qA V V V <| qN <| zB ?_
   have hx := hs0 x (zW hs)
   have hxl := (numB_len (show x.length < 2097152 by omega)).2
   have hxt : (textB x).length = (numB x.length).length + x.length := by simp [textB]
   refine zW0 [5] [_, pr S id t (l ++ numB s.length ++ (s.take (i + 1)).flatMap textB) ++ [.cells (encS (.mk 3 ins)).cells, .cells (encV (.mk n m s c w)).cells]] mo (by decide) V V V V ?_
   refine zN V V (.cons (zY V V Vv) (.cons (zY V V Vv) (.nil))) <| zN V V (.cons (zY0 V V V Vv) (.cons (zY0 V V V Vv) (.nil))) <| dO V V V (zG V V fo232_0 Vv) <| zN V V (.cons (zY V V Vv) (.cons (zY V V Vv) (.nil))) <| zN V V (.cons (zT0 V V V co126 (codeText_spec x (by omega) _)) .nil) ?_
   refine zV0 V V V V (zT0 V V V co125 (((write_at hw (textB x) (by rw [flatB, if_pos rfl, rowB, zE] at hl; simp only [zE]; omega) _).mono fun v σ' hv => ⟨hv.1, hv.2.trans (by rw [pr_pr h, flat_take hs, ← zO])⟩))) ?_
   refine zQ0 <| zB <| qR V <| qF V V V zB2 <| qO V <| zI1 (by simp [zL2]) V V V ta3 V ?_
   refine qC V V V V V <| qN <| zK V (V) <| zX <| qR V <| qO V <| zH1 V V V V <| qM V V V <| qN ?_
   refine ⟨i + 1, by omega, by omega, rfl, (.keep V (.keep V (.keep V (.keep V (.keep V (.nil)))))), (.eq V (zH2 hlt hlen') (.nil))⟩
  ·
   have hge : i = s.length := by simp at h64; omega
   refine zV1 ?_
   exact zN2 (by simp) zU3 (by rw [zL2]; exact Nat.le_refl _) (cls_pr hcl h.idl h.tl) ⟨rfl, by rw [hge, List.take_length, flatB, if_pos rfl, rowB, zO]⟩
theorem op_boxT' {P : Program} {rd : Option Nat} {o : Oper} {env : Env} {K : MV → MS → Prop} {S L L' : MS} {t k : Nat} {x : Operand} {m : MV} (ho : o.op = .box t x) (hx : evo env x = some m) (hk : L.length = k) (hL : L ++ [.tcells t m.cells] = L') (h : K (.ref (S.length + k) 0) (S ++ L')) : OpWp P rd o env (S ++ L) K := by
 refine op_boxT ho hx ?_
 subst hk; subst hL
 rw [zE, zO]
 exact h
theorem bytes_spec (sc : Sch) (x : Val) (B : Bs) (hok : okV x) (hyes : (isF 16 sc && isVF sc x) = true) (hB : B ≠ []) (hBl : B.length ≤ 8000000) (hw : ∀ id t, Writes 153 id t [.ref id 0, encS sc, encV x] B) (S : MS) : MCalls Tryz.prog 90 [encS sc, encV x] S fun v σ' => v = .str (bs B) ∧ σ' = S := by
 obtain ⟨k, ins⟩ := sc
 obtain ⟨n, m, s, c, w⟩ := x
 refine zR Tryz.func90 V Tryz.ntmps90 (zA V) ?_
 refine zG1 fun _ hcl => ?_
 rw [List.append_nil] at hcl
 refine zB <| qR V <| qB V V V V V <| qB V V V V V <| qA V V V <| qN <| zB <| zB <| qR V <| qL V V V V ta53 V <| qL V V V V ta27 V ?_
 refine qX V V V V co116 (valIs_spec (.mk k ins) (.mk n m s c w) hok _) ?_
 refine qO V <| zF1 V V <| qN <| zK V (by rw [hyes]; rfl) ?_
 refine zX <| zB <| qR V <| qO V <| zR1 V Tryz.underlying232 zm232 .nil (by kernel_rfl) ?_
 refine qO V <| op_boxT' (k := 2) V V V V <| qA V V V <| qN <| zB <| mwp_cellrowT 2 1 5 1 V V (Nat.le_refl _) V V ?_
 show mwp _ _ _ _ _ _ _ (S ++ [MObj.cells (encS (.mk k ins)).cells, MObj.cells (encV (.mk n m s c w)).cells, MObj.tcells 232 [.ptr0, .lst (some (S.length + 3)) 1 []], MObj.row 5 1 0])
 have hpa : PrAt (S ++ [MObj.cells (encS (.mk k ins)).cells, MObj.cells (encV (.mk n m s c w)).cells, MObj.tcells 232 [.ptr0, .lst (some (S.length + 3)) 1 []], MObj.row 5 1 0]) (S.length + 2) (S.length + 3) [] := ⟨by omega, ⟨_, .inl rfl, by rw [getElem?_own]; rfl⟩, by rw [getElem?_own]; rfl⟩
 have hpb := hpa.pr B
 obtain ⟨p, hp, hob0⟩ := hpb.ob
 have hrw := hpb.row
 have hob : (pr (S ++ [MObj.cells (encS (.mk k ins)).cells, MObj.cells (encV (.mk n m s c w)).cells, MObj.tcells 232 [.ptr0, .lst (some (S.length + 3)) 1 []], MObj.row 5 1 0]) (S.length + 2) (S.length + 3) B)[S.length + 2]? = some (.tcells 232 [.ref (S.length + 2) 0, .lst (some (S.length + 3)) 1 (B.map encY)]) := by
  unfold pr prO
  exact get_neO (by omega) (by rw [List.getElem?_set_self (by simp)])
 refine qR V <| qM V V V <| qL V V V V ta53 V <| qL V V V V ta27 V ?_
 refine qX V V V V co153 (hw (S.length + 2) (S.length + 3) [] (S ++ [MObj.cells (encS (.mk k ins)).cells, MObj.cells (encV (.mk n m s c w)).cells, MObj.tcells 232 [.ptr0, .lst (some (S.length + 3)) 1 []], MObj.row 5 1 0]) hpa (by simp only [List.length_nil]; omega)) ?_
 refine qN <| zB <| qR V <| qM V V V <| qO V <| zY0 V V V <| qF V V V fo232_0 ?_
 refine qX V V V V co66 (string_spec (S.length + 2) (S.length + 3) B hB (by omega) (pr (S ++ [MObj.cells (encS (.mk k ins)).cells, MObj.cells (encV (.mk n m s c w)).cells, MObj.tcells 232 [.ptr0, .lst (some (S.length + 3)) 1 []], MObj.row 5 1 0]) (S.length + 2) (S.length + 3) B) hob hrw (by omega)) ?_
 refine qA V V V <| qN <| zH ?_
 have hE : (pr (S ++ [MObj.cells (encS (.mk k ins)).cells, MObj.cells (encV (.mk n m s c w)).cells, MObj.tcells 232 [.ptr0, .lst (some (S.length + 3)) 1 []], MObj.row 5 1 0]) (S.length + 2) (S.length + 3) B).set (S.length + 3) .gone = S ++ [.cells (encS (.mk k ins)).cells, .cells (encV (.mk n m s c w)).cells, prO (S.length + 2) (S.length + 3) B, .gone] := by
  unfold pr
  rw [List.set_set, set_own, set_own]
  rfl
 rw [hE]
 exact zT (.inr V) Tryz.results90 V (.refl _) (.str _) Vv
theorem ret_ctt {P : Program} {fn : Func} {S L : MS} {R : MV → MS → Prop} {env : Env} {e : Exit} {a t k off t2 t3 : Nat} {l : List MV} {ta : Option Nat} {x y x2 y2 x3 y3 : MV} (he : e = .normal ∨ e = .ret) (hres : fn.results = #[.cell a t, .tmp t2, .tmp t3]) (ha : get env a = some (.ref (S.length + k) off)) (hl : L[k]? = some (.cells l)) (ht : tyAgg P t = some ta) (hm : loadMV ta l off = some x) (hs : Sub x y) (hc : Cl S.length y)
  (hx2 : get env t2 = some x2) (hs2 : Sub x2 y2) (hc2 : Cl S.length y2) (hx3 : get env t3 = some x3) (hs3 : Sub x3 y3) (hc3 : Cl S.length y3) (hR : R (.tup [y, y2, y3]) S) : BodyQ P fn S R e env (S ++ L) := by
 refine ⟨he, [x, x2, x3], .tup [y, y2, y3], S, L, ?_, .tup (.cons hs (.cons hs2 (.cons hs3 .nil))), .tup _ (fun z hz => ?_), rfl, Nat.le_refl _, .inl rfl, hR⟩
 ·rw [hres]
  exact .cell ha (by rw [getElem?_own]; exact hl) ht hm (.tmp hx2 (.tmp hx3 .nil))
 ·simp only [List.mem_cons, List.not_mem_nil, or_false] at hz
  rcases hz with rfl | rfl | rfl
  ·exact hc
  ·exact hc2
  ·exact hc3
theorem _root_.zB5 : type_of% @ret_ctt := @ret_ctt
end Go.Proofs.YtciimaabeabkdaaGreatDoor
namespace Go.Proofs.YtciimaabeabkdaaGreatDoor
open Go Go.MV
theorem lev1 : levelF (.mk 1 []) = 1 := by simp [levelF, show isF 16 (.mk 1 []) = true by decide]
theorem lev3 : levelF (.mk 3 []) = 1 := by simp [levelF, show isF 16 (.mk 3 []) = true by decide]
theorem lev6 : levelF (.mk 6 []) = 2 := by simp [levelF, show isF 16 (.mk 6 []) = true by decide]
theorem levC : levelF (causeS (.mk 3 [])) = 3 := by
 unfold levelF
 rw [if_neg (by decide)]
 simp [causeS]
theorem right4 : rightF tabs4 = true := by
 have h : ∀ i < tabs4.length, rightAt tabs4 i = true := by
  intro i hi
  match i, hi with
  | 0, _ => simp [rightAt, tabs4, goodT, namedT, lev1]
  | 1, _ => simp [rightAt, tabs4, goodT, namedT, lev3]
  | 2, _ => simp [rightAt, tabs4, goodT, namedT, lev6]
  | 3, _ => simp [rightAt, tabs4, goodT, namedT, levC]
 rw [right_all h]
 rfl
theorem tblNew_spec (S : MS) (l : List Tbl) (hl : l.length ≤ 1000) (hr : rightF l = true) : MCalls Tryz.prog 25 [.lst none 4 (l.map encTb)] S fun v σ' => v = .ref (S.length + 1) 0 ∧ σ' = S ++ [.mp 0 [], tbO0 l S.length] := by
 refine zR Tryz.func25 V Tryz.ntmps25 (zA V) ?_
 refine zB <| qR V <| qA V V V <| qN <| zB <| zB <| qR V <| qM V V V ?_
 refine qX V V V V co22 (right_spec l _) ?_
 refine qO V <| zF1 V V <| qN <| zK V (by rw [hr]; rfl) ?_
 refine zX <| zB <| qR V <| qM V V V ?_
 refine qX V V V V co83 (tbClone_spec l hl _) ?_
 refine qO V <| op_makeMapT V V V <| qO V <| zR1 V Tryz.underlying148 zm148 (.cons fo148_1 sz146 V V (zA V) .nil) (by kernel_rfl) ?_
 refine qO V <| zR1 V Tryz.underlying150 zm150 (.cons fo150_0 sz39 V V (zA V) (.cons fo150_1 sz148 V V (zA V) .nil)) (by kernel_rfl) ?_
 refine qB V V V V V <| qA V V V <| qN ?_
 refine zG1 fun hcv hcl => ?_
 refine zH ?_
 exact ret_tmpT (.inr V) Tryz.results25 V (.refl _) (hcv 2 _ rfl) (by simp) hcl Vv
theorem tblGet_spec (S : MS) (tid mid clk : Nat) (es : List ME) (l : List Tbl) (kx : MV) (key : Bs) (w : Option Val) (hS : S[tid]? = some (.cells [.lst none 4 (l.map encTb), kx, .map mid])) (hm : S[mid]? = some (.mp clk es)) (hl : mpLook (bs key) es = w.map encV) : MCalls Tryz.prog 27 [.ref tid 0, .str (bs key)] S fun v σ' => v = encV (getF l w key) ∧ σ' = S := by
 refine zR Tryz.func27 V Tryz.ntmps27 (zA V) ?_
 obtain ⟨bn, bm, bs_, bc, bv, hB⟩ : ∃ n m s c w, BottomF ((findP l key).getD tb0).2.2 = .mk n m s c w := by cases BottomF ((findP l key).getD tb0).2.2; exact ⟨_, _, _, _, _, rfl⟩
 obtain ⟨ft, hft⟩ : ∃ t, (findP l key).getD tb0 = t := ⟨_, rfl⟩
 have hfs := zU5 l key
 obtain ⟨fb, hfb⟩ : ∃ b, (findP l key).isSome = b := ⟨_, rfl⟩
 rw [hft, hfb] at hfs
 have hbo := Bottom_spec ft.2.2
 rw [show BottomF ft.2.2 = .mk bn bm bs_ bc bv by rw [← hft]; exact hB] at hbo
 obtain ⟨fn, fl, ⟨fk, fi⟩⟩ := ft
 refine zB <| qR V <| qO V <| zM0 V zm27 V V <| qN <| zB <| zB ?_
 rcases w with _ | ⟨vn, vm, vs, vc, vv⟩
 ·
  refine qR V <| qM V V V <| qO V <| zY0 V V V <| qF V V V fo150_1 <| qF V V V fo148_1 <| qO V <| zA2 V V hS ta146 V <| qM V V V <| qO V <| zO5 (t := 146) (e := 27) (z := zV) (m := zV) (c := false) V (by kernel_rfl) (by kernel_rfl) V V (zQ hm) (by rw [hl]; rfl) (by rw [hl]; rfl) ?_
  refine qM V V V <| qO V <| zS V V V <| qO V <| zS V V V <| qO V <| zM0 V zm27 V V <| qO V <| zZ V V V V sz27 V V (zA V) V <| qA V V V <| qN <| zB <| qR V <| qM V V V <| qN <| zK V (V) <| zX <| zB <| qR V <| qM V V V <| qO V <| zY0 V V V <| qF V V V fo150_0 <| qO V <| zA2 V V hS ta39 V ?_
  refine qM V V V ?_
  refine qX V V V V co20 (hfs _) ?_
  refine qM V V V <| qO V <| zS V V V <| qO V <| zS V V V <| qO V <| zM0 V zm55 V V <| qO V <| zZ V V V V sz55 V V (zA V) V <| qA V V V <| qN <| zB <| qR V <| qF V V V zT4 <| qL V V V V ta53 V ?_
  refine qX V V V V co84 (hbo _) ?_
  refine qO V <| zZ V V V V sz27 V V (zA V) V <| qN <| zH ?_
  exact zF3 (.inr V) Tryz.results27 V V ta27 V (.of_eq (congrArg encV (show _ = getF l none key from hB.symm))) (zO1 _ (getF l none key)) Vv
 ·
  refine qR V <| qM V V V <| qO V <| zY0 V V V <| qF V V V fo150_1 <| qF V V V fo148_1 <| qO V <| zA2 V V hS ta146 V <| qM V V V <| qO V <| zO5 (t := 146) (e := 27) (z := zV) (m := encV (.mk vn vm vs vc vv)) (c := true) V (by kernel_rfl) (by kernel_rfl) V V (zQ hm) (by rw [hl]; rfl) (by rw [hl]; rfl) ?_
  refine qM V V V <| qO V <| zS V V V <| qO V <| zS V V V <| qO V <| zM0 V zm27 V V <| qO V <| zZ V V V V sz27 V V (zA V) V <| qA V V V <| qN <| zB <| qR V <| qM V V V <| qN <| zU V (V) <| zB <| qR V <| qL V V V V ta27 V <| qO V <| zZ V V V V sz27 V V (zA V) V <| qN <| zH ?_
  exact zF3 (.inr V) Tryz.results27 V V ta27 V (.refl _) (zO1 _ (.mk vn vm vs vc vv)) Vv
end Go.Proofs.YtciimaabeabkdaaGreatDoor
namespace Go.Proofs.YtciimaabeabkdaaGreatDoor
open Go Go.MV Go.RowKit
def entB (E : Val → Bs) (p : Bs × Val) : Bs := textB p.1 ++ E p.2
def entsB (E : Val → Bs) (ps : List (Bs × Val)) : Bs := numB ps.length ++ ps.flatMap (entB E)
theorem ents_take {E : Val → Bs} {ps : List (Bs × Val)} {i : Nat} {p : Bs × Val} (h : ps[i]? = some p) : (ps.take (i + 1)).flatMap (entB E) = (ps.take i).flatMap (entB E) ++ textB p.1 ++ E p.2 := by
 rw [List.take_add_one, h, List.flatMap_append]
 simp [entB]
theorem ents_le {E : Val → Bs} {ps : List (Bs × Val)} {i : Nat} {p : Bs × Val} (h : ps[i]? = some p) : ((ps.take i).flatMap (entB E)).length + (textB p.1).length + (E p.2).length ≤ (ps.flatMap (entB E)).length := by
 have h1 : (ps.take (i + 1)).flatMap (entB E) ++ (ps.drop (i + 1)).flatMap (entB E) = ps.flatMap (entB E) := by rw [← List.flatMap_append, List.take_append_drop]
 have h2 := congrArg List.length h1
 rw [ents_take h] at h2
 simp only [zE] at h2
 omega
theorem map_writes (k1 : Int) (i1 : List Sch) (E : Val → Bs) (n m : Int) (c : List (List Tk)) (ps : List (Bs × Val)) (id t : Nat) (hpl : ps.length ≤ 1000) (hps : ∀ p ∈ ps, p.1.length ≤ 1000) (hE : ∀ p ∈ ps, Writes 153 id t [.ref id 0, encS (.mk k1 i1), encV p.2] (E p.2)) : Writes 153 id t [.ref id 0, encS (.mk 4 [.mk k1 i1]), encV (.mk n m (ps.map Prod.fst) c (ps.map Prod.snd))] (entsB E ps) := by
 intro l S h hl
 refine zR zA4 V zG4 (zA V) ?_
 refine zG1 fun _ hcl => ?_
 rw [List.append_nil] at hcl
 have hlen' : ps.length ≤ maxLen := by simp only [maxLen]; omega
 have hnb := zN3 9 ps.length (by omega)
 rw [entsB, zE] at hl
 refine zB <| qR V <| qB V V V V V <| qB V V V V V <| qN <| zB <| qR V <| qF V V V zB2 <| qO V <| zI1 (by simp [zL2]) V V V ta3 V ?_
 refine qN <| zB0 <| zB <| zB <| qR V <| qC V V V V V <| qA V V V <| qN <| zK V (V) <| qR V <| qC V V V V V <| qA V V V <| qN <| zK V (V) <| zB <| zB <| qR V <| qC V V V V V <| qA V V V <| qN <| zK V (V) <| qR V <| qC V V V V V ?_
 refine qA V V V <| qN <| zU V (V) <| zB <| qR V <| qM V V V <| qF V V V zZ2 <| qO V <| zI1 (by simp [zL2]) V V V ta23 V ?_
 refine qE V V zE0 V <| qO V <| zL3 V zX2 zD3 V (zK5 (by rw [zF, zF]; omega)) ?_
 rw [zF, zF]
 refine qX V V V V co194 ((zF4 id t ps.length (by omega)).sl h (by omega) _) ?_
 refine qN <| zB <| qR V <| qF V V V zZ2 <| qO V <| zI1 (by simp [zL2]) V V V ta23 V ?_
 refine qE V V zE0 V <| qM V V V <| qN <| zB0 ?_
 show mwp _ _ _ _ _ _ _ (([] : MS) ++ (pr S id t (l ++ numB ps.length) ++ [.cells (encS (.mk 4 [.mk k1 i1])).cells, .cells (encV (.mk n m (ps.map Prod.fst) c (ps.map Prod.snd))).cells]))
 refine zK2 (α := Nat) [(0, _), (4, _), (5, _), (61, _), (62, _)] (fun i => [(63, .int .i64 (i : Int))]) (fun i => (pr S id t (l ++ numB ps.length ++ (ps.take i).flatMap (entB E)) ++ [.cells (encS (.mk 4 [.mk k1 i1])).cells, .cells (encV (.mk n m (ps.map Prod.fst) c (ps.map Prod.snd))).cells])) (fun i => i ≤ ps.length) (fun i => ps.length - i) (0) (.keep V (.keep V (.keep V (.keep V (.keep V (.nil)))))) (.keep V (.nil)) (by omega) (by simp) ?_
 rintro i hi
 show mwp _ _ _ _ _ _ _ (pr S id t (l ++ numB ps.length ++ (ps.take i).flatMap (entB E)) ++ [.cells (encS (.mk 4 [.mk k1 i1])).cells, .cells (encV (.mk n m (ps.map Prod.fst) c (ps.map Prod.snd))).cells])
 have hw := h.pr (l ++ numB ps.length ++ (ps.take i).flatMap (entB E))
 refine zB <| qR V <| qC V V V V V <| qN <| zB ?_
 refine zM V (fun h64 => ?_) (fun h64 => ?_)
 ·
  rw [zF, zF] at h64
  have hlt : i < ps.length := by simpa using h64
  obtain ⟨⟨x, ⟨n9, m9, s9, c9, w9⟩⟩, hs⟩ : ∃ q_, ps[i]? = some q_ := ⟨_, zC hlt⟩
  have hpm := zW hs
  have hx := hps _ hpm
  dsimp only at hx
  have hle := ents_le (E := E) hs
  dsimp only at hle
  have hxl := (numB_len (show x.length < 2097152 by omega)).2
  have hxt : (textB x).length = (numB x.length).length + x.length := by simp [textB]
  have hgx : ((ps.map Prod.fst).map encX)[i]? = some (encX x) := by rw [zI0, zI0, hs]; rfl
  have hgw : (encVs (ps.map Prod.snd))[i]? = some (encV (.mk n9 m9 s9 c9 w9)) := by rw [encVs_eq, zI0, zI0, hs]; rfl
  refine zX <| zB <| zB0 <| zB <| qR V <| qM V V V <| qO V <| zI V zE0 sz9 (by decide) V V V hgx ?_
  refine qO V <| zL V V ta9 V <| qA V V V <| qA V V V <| qN <| zB ?_
  refine zW0 [5] [_, pr S id t (l ++ numB ps.length ++ (ps.take i).flatMap (entB E) ++ textB x) ++ [.cells (encS (.mk 4 [.mk k1 i1])).cells, .cells (encV (.mk n m (ps.map Prod.fst) c (ps.map Prod.snd))).cells]] mo (by decide) V V V V ?_
  refine zN V V (.cons (zY V V Vv) (.cons (zY V V Vv) (.nil))) <| zN V V (.cons (zY0 V V V Vv) (.cons (zY0 V V V Vv) (.nil))) <| dO V V V (zG V V fo232_0 Vv) <| zN V V (.cons (zY V V Vv) (.cons (zY V V Vv) (.nil))) <| zN V V (.cons (zT0 V V V co126 (codeText_spec x (by omega) _)) .nil) ?_
  refine zV0 V V V V (zT0 V V V co125 (((write_at hw (textB x) (by simp only [zE]; omega) _).mono fun v σ' hv => ⟨hv.1, hv.2.trans (by rw [pr_pr h])⟩))) ?_
  refine zQ0 <| zB <| qR V <| qF V V V zB2 <| qO V <| zI1 (by simp [zL2]) V V V ta3 V ?_
  refine qC V V V V V <| qN <| zU V (V) ?_
  refine zW0 [10] [_, pr S id t (l ++ numB ps.length ++ (ps.take i).flatMap (entB E) ++ textB x ++ E (.mk n9 m9 s9 c9 w9)) ++ [.cells (encS (.mk 4 [.mk k1 i1])).cells, .cells (encV (.mk n m (ps.map Prod.fst) c (ps.map Prod.snd))).cells]] mo (by decide) V V V V ?_
  refine dO V V V (zY V V Vv) <| zN V V (.cons (zG V V zG3 Vv) (.cons (zG V V zG3 Vv) (.nil))) <| zN V V (.cons (zI1 (by simp [zL2]) V V V ta51 V Vv) (.cons (zI1 (by simp [zL2]) V V V ta51 V Vv) (.nil))) ?_
  refine zN V V (.cons (zI V zO0 sz53 (by decide) V V V (show _ = some (encS (.mk k1 i1)) from V) Vv) (.cons (zI V zO0 sz53 (by decide) V V V (show _ = some (encS (.mk k1 i1)) from V) Vv) (.nil))) ?_
  refine dO V V V (zL V V ta53 V Vv) <| zN V V (.cons (zG V V zG2 Vv) (.cons (zG V V zG2 Vv) (.nil))) <| zN V V (.cons (zI1 (by simp [zL2]) V V V ta25 V Vv) (.cons (zI1 (by simp [zL2]) V V V ta25 V Vv) (.nil))) ?_
  refine zN V V (.cons (zY V V Vv) (.cons (zY V V Vv) (.nil))) <| zN V V (.cons (zI V zG0 sz27 (by decide) V V V hgw Vv) (.cons (zI V zG0 sz27 (by decide) V V V hgw Vv) (.nil))) ?_
  refine dO V V V (zL V V ta27 V Vv) ?_
  refine zV0 V V V V (zT0 V V V co153 ((((hE _ hpm).sl (h.pr (l ++ numB ps.length ++ (ps.take i).flatMap (entB E) ++ textB x)) (by simp only [zE]; omega) _).mono fun v σ' hv => ⟨hv.1, hv.2.trans (by rw [pr_pr h])⟩))) ?_
  refine zQ0 <| qR V <| qO V <| zH1 V V V V <| qM V V V <| qN ?_
  refine ⟨i + 1, by omega, by omega, by rw [ents_take hs]; simp only [zO, List.nil_append], (.keep V (.keep V (.keep V (.keep V (.keep V (.nil)))))), (.eq V (zH2 hlt hlen') (.nil))⟩
 ·
  rw [zF, zF] at h64
  have hge : i = ps.length := by simp at h64; omega
  refine zV1 ?_
  exact zN2 (by simp) zU3 (by rw [zL2]; exact Nat.le_refl _) (cls_pr hcl h.idl h.tl) ⟨rfl, by rw [hge, List.take_length, entsB, zO]⟩
def tkB (t : Tk) : Bs := numB t.1.toNat ++ numB t.2.toNat
def okW (t : Tk) : Prop := (0 ≤ t.1 ∧ t.1 < 9223372036854775808) ∧ 0 ≤ t.2 ∧ t.2 < 18446744073709551616
theorem tkB_len {t : Tk} (h : okW t) : (tkB t).length ≤ 20 := by
 have h1 := zN3 9 t.1.toNat (by have := h.1; omega)
 have h2 := zN3 9 t.2.toNat (by have := h.2; omega)
 rw [tkB, zE]
 omega
theorem tks_len {c : List Tk} (h : ∀ t ∈ c, okW t) : ∀ i, ((c.take i).flatMap tkB).length ≤ i * 20
 | 0 => by simp
 | i + 1 => by
  have ih := tks_len h i
  rw [List.take_add_one, List.flatMap_append, zE]
  cases hs : c[i]? with
  | none => simp only [Option.toList_none, List.flatMap_nil, List.length_nil]; omega
  | some x =>
   have := tkB_len (h x (zW hs))
   simp only [Option.toList_some, List.flatMap_cons, List.flatMap_nil, List.append_nil]
   omega
theorem tks_take {c : List Tk} {i : Nat} {x : Tk} (h : c[i]? = some x) : (c.take (i + 1)).flatMap tkB = (c.take i).flatMap tkB ++ tkB x := by
 rw [List.take_add_one, h, List.flatMap_append]
 simp
theorem clock_writes (c : List Tk) (hc : c.length ≤ 1000) (hc0 : ∀ t ∈ c, okW t) (id t : Nat) (l : Bs) (S : MS) (h : PrAt S id t l) (hl : l.length ≤ 8000000) : MCalls Tryz.prog 195 [.ref id 0, encC c] S fun v σ' => v = .tup [] ∧ σ' = pr S id t (l ++ rowB tkB c) := by
 refine zR Tryz.func195 V Tryz.ntmps195 (zA V) ?_
 refine zG1 fun _ hcl => ?_
 rw [List.append_nil] at hcl
 have hlen' : c.length ≤ maxLen := by simp only [maxLen]; omega
 have hnb := zN3 9 c.length (by omega)
 refine zB <| qR V <| qM V V V <| qM V V V <| qE V V zC0 V <| qO V <| zL3 V zX2 zD3 V (zK5 (by rw [zF]; omega)) ?_
 rw [zF]
 refine qX V V V V co194 ((zF4 id t c.length (by omega)).sl h (by omega) []) ?_
 refine qN <| zB <| qR V <| qM V V V <| qE V V zC0 V <| qM V V V <| qN <| zB0 ?_
 show mwp _ _ _ _ _ _ _ (([] : MS) ++ (pr S id t (l ++ numB c.length) ++ []))
 refine zK2 (α := Nat × MS) [(0, _), (11, _), (12, _)] (fun x => [(13, .int .i64 (x.1 : Int))]) (fun x => (pr S id t (l ++ numB c.length ++ (c.take x.1).flatMap tkB) ++ x.2)) (fun x => x.1 ≤ c.length) (fun x => c.length - x.1) (⟨0, []⟩) (.keep V (.keep V (.keep V (.nil)))) (.keep V (.nil)) (by simp) (by simp) ?_
 rintro ⟨i, J⟩ hi
 dsimp only at hi ⊢
 show mwp _ _ _ _ _ _ _ (pr S id t (l ++ numB c.length ++ (c.take i).flatMap tkB) ++ J)
 have hw := h.pr (l ++ numB c.length ++ (c.take i).flatMap tkB)
 have hfl := tks_len hc0 i
 have hpl : (l ++ numB c.length ++ (c.take i).flatMap tkB).length ≤ 20020 + l.length := by simp only [zE]; omega
 refine zB <| qR V <| qC V V V V V <| qN <| zB ?_
 refine zM V (fun h14 => ?_) (fun h14 => ?_)
 ·
  have hlt : i < c.length := by simpa using h14
  obtain ⟨⟨a, b⟩, hs⟩ : ∃ q_, c[i]? = some q_ := ⟨_, zC hlt⟩
  refine zX <| zB <| zB0 <| zB ?_
  have hab := hc0 _ (zW hs)
  obtain ⟨ha1, ha2⟩ := hab
  dsimp only at ha1 ha2
  have hn1 := zN3 9 a.toNat (by omega)
  have hn2 := zN3 9 b.toNat (by omega)
  refine qR V <| qO V <| zI V zC0 sz262 (by decide) V V V (zM1 hs) ?_
  refine qO V <| zL V V ta262 V <| qO V <| zS4 V zm262 <| qO V <| zY2 V V V sz262 V V (zA V) <| qN <| zB <| qR V ?_
  rw [zO (pr S id t _)]
  refine qM V V V <| qF V V V zD5 <| qO V <| zJ (l := [.int .i64 a, .int .u64 b]) V V (by rw [← zO]; exact get_lastO (by simp [zL2])) ta3 V ?_
  refine qO V <| zL3 V zX2 zD3 V (zK5 (by omega)) ?_
  rw [show a = ((a.toNat : Nat) : Int) by omega]
  refine qX V V V V co194 ((zF4 id t a.toNat (by omega)).sl hw (by omega) (J ++ [_])) ?_
  rw [pr_pr h]
  refine qN <| qR V <| qM V V V <| qF V V V fo262_1 <| qO V <| zJ (l := [.int .i64 ((a.toNat : Nat) : Int), .int .u64 b]) V V (by rw [← zO]; exact get_lastO (by simp [zL2])) ta22 V ?_
  rw [show b = ((b.toNat : Nat) : Int) by omega]
  refine qX V V V V co194 ((zF4 id t b.toNat (by omega)).sl (h.pr (l ++ numB c.length ++ (c.take i).flatMap tkB ++ numB a.toNat)) (by rw [zE]; omega) (J ++ [_])) ?_
  rw [pr_pr h]
  refine qN <| qR V <| qO V <| zH1 V V V V <| qM V V V <| qN ?_
  refine ⟨⟨i + 1, J ++ [_]⟩, by dsimp only; omega, by dsimp only; omega, by rw [tks_take hs, tkB]; simp only [zO, List.nil_append]; rfl, (.keep V (.keep V (.keep V (.nil)))), (.eq V (zH2 hlt hlen') (.nil))⟩
 ·
  have hge : i = c.length := by simp at h14; omega
  refine zV1 ?_
  exact zN2 (by simp) Tryz.results195 (by rw [zL2]; exact Nat.le_refl _) (cls_pr hcl h.idl h.tl) ⟨rfl, by rw [hge, List.take_length, rowB, zO]⟩
def entM (M : RdS → Val × RdS) (r : RdS) (c : List Bs) : Val × RdS × List Bs := ((M (textM r).2).1, (M (textM r).2).2, c ++ [(textM r).1])
def mapM (M : RdS → Val × RdS) (r : RdS) : Val × RdS := (.mk 0 0 (rowC (entM M) r []).2.2 [] (rowC (entM M) r []).1, (rowC (entM M) r []).2.1)
section
section
variable {α β : Type}
end
theorem clk_who {c : List Tk} (h : isClockF c = true) : c.length ≤ 40 ∧ ∀ t ∈ c, 0 ≤ t.1 ∧ t.1 ≤ 1000000 := by
 unfold isClockF at h
 rw [Bool.and_eq_true, decide_eq_true_eq, decide_eq_true_eq] at h
 refine ⟨h.2, fun t ht => ?_⟩
 obtain ⟨j, hj⟩ := List.getElem?_of_mem ht
 have h1 := h.1 j (zD.1 hj).1
 unfold okAt at h1
 rw [hj] at h1
 simp only [Bool.and_eq_true, Bool.not_eq_true', decide_eq_false_iff_not] at h1
 omega
theorem short_mem {s : List Bs} (h : shortF s = true) : ∀ x ∈ s, x.length ≤ 16 := fun x hx => by
 have := List.all_eq_true.1 h x hx
 simpa using this
theorem cause_mem {l : List (List Tk)} (h : isCauseF l = true) : ∀ c ∈ l, isClockF c = true := by
 unfold isCauseF at h
 rw [Bool.and_eq_true, List.all_eq_true] at h
 exact h.1
def lastB (v : Val) : Bs := numB v.sv.length ++ v.sv.flatMap fun t => numB v.nv.toNat ++ (numB v.mv.toNat ++ textB t)
def oneB (v : Val) : Bs := rowB tkB (v.cv.headD [])
def mapB (E : Val → Bs) (v : Val) : Bs := entsB E (v.sv.zip v.vv)
def pairB (E F : Val → Bs) (v : Val) : Bs := E (v.vv.headD noV) ++ F (v.vv.tail.headD noV)
def sibB (E : Val → Bs) (p : List Tk × Val) : Bs := rowB tkB p.1 ++ E p.2
def sibsB (E : Val → Bs) (v : Val) : Bs := rowB (sibB E) (v.cv.zip v.vv)
def kindB (k : Int) (fs : List (Val → Bs)) : Val → Bs :=
 if k = 1 ∨ k = 2 ∨ k = 3 then flatB k else if k = 4 then mapB (fs.headD lastB) else if k = 5 then pairB (fs.headD lastB) (fs.tail.headD lastB) else if k = 6 then lastB else if k = 7 then oneB else sibsB (fs.headD lastB)
mutual
def valB : Sch → Val → Bs
 | .mk k ins => kindB k (valBs ins)
def valBs : List Sch → List (Val → Bs)
 | [] => []
 | s :: l => valB s :: valBs l
end
def isOk (s : Sch) (v : Val) : Prop := isVF s v = true ∧ okV v
theorem bare_nums {k : Int} (hk : k = 1 ∨ k = 2) {ins : List Sch} {n m : Int} {s : List Bs} {c : List (List Tk)} {w : List Val} (h : isVF (.mk k ins) (.mk n m s c w) = true) : m = 0 ∧ s = [] ∧ c = [] ∧ w = [] := by
 rw [isVF, isB] at h
 simp only [Bool.and_eq_true] at h
 have hb := h.1.1.1
 rcases hk with rfl | rfl <;> simpa [bareF, numsK, textsK, clocksK, valuesK, Val.nv, Val.mv, Val.sv, Val.cv, Val.vv, List.length_eq_zero_iff, and_assoc] using hb
theorem bare_set {ins : List Sch} {n m : Int} {s : List Bs} {c : List (List Tk)} {w : List Val} (h : isVF (.mk 3 ins) (.mk n m s c w) = true) : n = 0 ∧ m = 0 ∧ c = [] ∧ w = [] ∧ s.length ≤ 40 ∧ ∀ x ∈ s, x.length ≤ 16 := by
 rw [isVF, isB] at h
 simp only [Bool.and_eq_true] at h
 have hb := h.1.1.1
 have hr : isRowF s = true := h.2
 unfold isRowF at hr
 rw [Bool.and_eq_true, Bool.and_eq_true, decide_eq_true_eq] at hr
 have : n = 0 ∧ m = 0 ∧ c = [] ∧ w = [] := by simpa [bareF, numsK, textsK, clocksK, valuesK, Val.nv, Val.mv, Val.sv, Val.cv, Val.vv, List.length_eq_zero_iff, and_assoc] using hb
 exact ⟨this.1, this.2.1, this.2.2.1, this.2.2.2, hr.1.1, short_mem hr.2⟩
theorem bare_map {s1 : Sch} {n m : Int} {s : List Bs} {c : List (List Tk)} {w : List Val} (h : isVF (.mk 4 [s1]) (.mk n m s c w) = true) : n = 0 ∧ m = 0 ∧ c = [] ∧ s.length = w.length ∧ (s.length ≤ 40 ∧ ∀ x ∈ s, x.length ≤ 16) ∧ ∀ x ∈ w, isVF s1 x = true := by
 rw [isVF, isB] at h
 simp only [Bool.and_eq_true] at h
 have hb := h.1.1.1
 have h2 := h.2
 rw [if_neg (by decide), if_neg (by decide), if_neg (by decide), if_pos trivial] at h2
 simp only [Bool.and_eq_true, decide_eq_true_eq, List.all_eq_true, isVL, List.headD_cons] at h2
 obtain ⟨⟨hr, hl⟩, hv⟩ := h2
 unfold isRowF at hr
 rw [Bool.and_eq_true, Bool.and_eq_true, decide_eq_true_eq] at hr
 have : n = 0 ∧ m = 0 ∧ c = [] := by simpa [bareF, numsK, textsK, clocksK, valuesK, Val.nv, Val.mv, Val.sv, Val.cv, Val.vv, List.length_eq_zero_iff, and_assoc] using hb
 exact ⟨this.1, this.2.1, this.2.2, hl, ⟨hr.1.1, short_mem hr.2⟩, fun x hx => (hv x hx).1⟩
theorem zip_fst {α β : Type} : ∀ {a : List α} {b : List β}, a.length = b.length → (a.zip b).map (·.1) = a ∧ (a.zip b).map (·.2) = b
 | [], [], _ => ⟨rfl, rfl⟩
 | [], _ :: _, h => by simp at h
 | _ :: _, [], h => by simp at h
 | x :: a, y :: b, h => by
  obtain ⟨h1, h2⟩ := zip_fst (a := a) (b := b) (by simpa using h)
  exact ⟨by rw [List.zip_cons_cons, List.map_cons, h1], by rw [List.zip_cons_cons, List.map_cons, h2]⟩
theorem zip_len {α β : Type} {a : List α} {b : List β} (h : a.length = b.length) : (a.zip b).length = a.length := by
 rw [List.length_zip]
 omega
theorem ok_vals {n m : Int} {s : List Bs} {c : List (List Tk)} {w : List Val} (h : okV (.mk n m s c w)) : ∀ x ∈ w, okV x := by
 rw [okV] at h
 exact okVs_iff.1 h.2.2.2
theorem bare_pair {s1 s2 : Sch} {n m : Int} {s : List Bs} {c : List (List Tk)} {w : List Val} (h : isVF (.mk 5 [s1, s2]) (.mk n m s c w) = true) : n = 0 ∧ m = 0 ∧ s = [] ∧ c = [] ∧ ∃ x y, w = [x, y] ∧ isVF s1 x = true ∧ isVF s2 y = true := by
 rw [isVF, isB] at h
 simp only [Bool.and_eq_true] at h
 have hb := h.1.1.1
 have h2 := h.2
 rw [if_neg (by decide), if_neg (by decide), if_neg (by decide), if_neg (by decide), if_pos trivial] at h2
 have : n = 0 ∧ m = 0 ∧ s = [] ∧ c = [] := by simpa [bareF, numsK, textsK, clocksK, valuesK, Val.nv, Val.mv, Val.sv, Val.cv, Val.vv, List.length_eq_zero_iff, and_assoc] using hb
 refine ⟨this.1, this.2.1, this.2.2.1, this.2.2.2, ?_⟩
 match w, h2 with
 | [x, y], h2 =>
  simp only [Val.vv, isVL, List.headD_cons, List.tail_cons, Bool.and_eq_true] at h2
  exact ⟨x, y, rfl, h2.1, h2.2⟩
 | [], h2 => cases h2
 | [_], h2 => cases h2
 | _ :: _ :: _ :: _, h2 => cases h2
theorem bare_last {ins : List Sch} {n m : Int} {s : List Bs} {c : List (List Tk)} {w : List Val} (h : isVF (.mk 6 ins) (.mk n m s c w) = true) : c = [] ∧ w = [] ∧ ((s = [] ∧ n = 0 ∧ m = 0) ∨ ∃ t, s = [t] ∧ t.length ≤ 16) := by
 rw [isVF, isB] at h
 simp only [Bool.and_eq_true] at h
 have hb := h.1.1.1
 have h2 := h.2
 rw [if_neg (by decide), if_neg (by decide), if_neg (by decide), if_neg (by decide), if_neg (by decide), if_pos trivial] at h2
 have : c = [] ∧ w = [] := by simpa [bareF, numsK, textsK, clocksK, valuesK, Val.nv, Val.mv, Val.sv, Val.cv, Val.vv, List.length_eq_zero_iff, and_assoc] using hb
 refine ⟨this.1, this.2, ?_⟩
 match s, h2 with
 | [], h2 => simp only [Val.nv, Val.mv, Val.sv, isLastF, Bool.and_eq_true, beq_iff_eq] at h2; exact .inl ⟨rfl, h2.1, h2.2⟩
 | [t], h2 => simp only [Val.nv, Val.mv, Val.sv, isLastF, Bool.and_eq_true, decide_eq_true_eq] at h2; exact .inr ⟨t, rfl, h2.1⟩
 | _ :: _ :: _, h2 => cases h2
theorem bare_one {ins : List Sch} {n m : Int} {s : List Bs} {c : List (List Tk)} {w : List Val} (h : isVF (.mk 7 ins) (.mk n m s c w) = true) : n = 0 ∧ m = 0 ∧ s = [] ∧ w = [] ∧ (c = [] ∨ ∃ x, c = [x] ∧ x.length ≠ 0 ∧ isClockF x = true) := by
 rw [isVF, isB] at h
 simp only [Bool.and_eq_true] at h
 have hb := h.1.1.1
 have h2 := h.2
 rw [if_neg (by decide), if_neg (by decide), if_neg (by decide), if_neg (by decide), if_neg (by decide), if_neg (by decide), if_pos trivial] at h2
 have : n = 0 ∧ m = 0 ∧ s = [] ∧ w = [] := by simpa [bareF, numsK, textsK, clocksK, valuesK, Val.nv, Val.mv, Val.sv, Val.cv, Val.vv, List.length_eq_zero_iff, and_assoc] using hb
 refine ⟨this.1, this.2.1, this.2.2.1, this.2.2.2, ?_⟩
 match c, h2 with
 | [], h2 => exact .inl rfl
 | [x], h2 => simp only [Val.cv, Bool.and_eq_true, decide_eq_true_eq] at h2; exact .inr ⟨x, rfl, by omega, h2.2⟩
 | _ :: _ :: _, h2 => cases h2
theorem bare_sibs {s1 : Sch} {n m : Int} {s : List Bs} {c : List (List Tk)} {w : List Val} (h : isVF (.mk 8 [s1]) (.mk n m s c w) = true) : n = 0 ∧ m = 0 ∧ s = [] ∧ c.length = w.length ∧ (c.length ≤ 40 ∧ ∀ x ∈ c, isClockF x = true) ∧ ∀ x ∈ w, isVF s1 x = true := by
 rw [isVF, isB] at h
 simp only [Bool.and_eq_true] at h
 have hb := h.1.1.1
 have hc := h.1.2
 have h2 := h.2
 rw [if_neg (by decide), if_neg (by decide), if_neg (by decide), if_neg (by decide), if_neg (by decide), if_neg (by decide), if_neg (by decide)] at h2
 simp only [Bool.and_eq_true, decide_eq_true_eq, List.all_eq_true, isVL, List.headD_cons] at h2 hc
 have : n = 0 ∧ m = 0 ∧ s = [] := by simpa [bareF, numsK, textsK, clocksK, valuesK, Val.nv, Val.mv, Val.sv, Val.cv, Val.vv, List.length_eq_zero_iff, and_assoc] using hb
 exact ⟨this.1, this.2.1, this.2.2, h2.1.1, ⟨hc, cause_mem h2.1.2⟩, h2.2⟩
theorem kinds {k : Int} {ins : List Sch} (h : partsF k = (ins.length : Int)) : ((k = 1 ∨ k = 2) ∧ ins = []) ∨ (k = 3 ∧ ins = []) ∨ (k = 6 ∧ ins = []) ∨ (k = 7 ∧ ins = []) ∨ (∃ s, k = 4 ∧ ins = [s]) ∨ (∃ s, k = 8 ∧ ins = [s]) ∨ ∃ s t, k = 5 ∧ ins = [s, t] := by
 have hz : ∀ {l : List Sch}, ((0 : Int) = (l.length : Int)) → l = [] := fun e => List.eq_nil_of_length_eq_zero (by omega)
 have ho : ∀ {l : List Sch}, ((1 : Int) = (l.length : Int)) → ∃ s, l = [s] := fun e => List.length_eq_one_iff.1 (by omega)
 have ht : ∀ {l : List Sch}, ((2 : Int) = (l.length : Int)) → ∃ s t, l = [s, t] := fun {l} e => by
  match l, e with
  | [a, b], _ => exact ⟨a, b, rfl⟩
  | [], e => simp at e
  | [_], e => simp at e
  | _ :: _ :: _ :: _, e => simp at e; omega
 unfold partsF at h
 split at h
 ·rename_i hk
  have := hz h
  rcases hk with hk | hk | hk | hk | hk
  ·exact .inl ⟨.inl hk, this⟩
  ·exact .inl ⟨.inr hk, this⟩
  ·exact .inr (.inl ⟨hk, this⟩)
  ·exact .inr (.inr (.inl ⟨hk, this⟩))
  ·exact .inr (.inr (.inr (.inl ⟨hk, this⟩)))
 ·split at h
  ·rename_i hk
   obtain ⟨s, hs⟩ := ho h
   rcases hk with hk | hk
   ·exact .inr (.inr (.inr (.inr (.inl ⟨s, hk, hs⟩))))
   ·exact .inr (.inr (.inr (.inr (.inr (.inl ⟨s, hk, hs⟩)))))
  ·split at h
   ·rename_i hk
    obtain ⟨s, t, hs⟩ := ht h
    exact .inr (.inr (.inr (.inr (.inr (.inr ⟨s, t, hk, hs⟩)))))
   ·omega
end
end Go.Proofs.YtciimaabeabkdaaGreatDoor
namespace Go.MV
open Go Go.RowKit Go.ChangeShapes Go.WideShapes Go.Deep
section
def g0 (W : World) : Gh := { B := W.heap.size, w0 := W, st := fun b => match W.heap[b]? with | some (.cells c _ _) => c.size | _ => 0, bk := fun _ => none, lg := fun _ _ => none }
theorem rel0 (W : World) : Rel (g0 W) [] W := by
 refine ⟨.refl _ _, Nat.le_refl _, fun b hb => ?_, fun _ _ => rfl, fun _ _ _ => rfl, fun _ => none, ⟨fun id o h => (by simp at h), fun i j b h => (by cases h), fun id b h => (by cases h)⟩⟩
 show (match W.heap[b]? with | some (.cells c _ _) => c.size | _ => 0) = 0
 rw [Array.getElem?_eq_none hb]
theorem stab0 {W : World} {ad : Addr} {k : Nat} {v : Value} (h : W.cell? (ad.add k) = some v) (h1 : v.oneCell' = true) : Stab (g0 W) W ad k v := by
 refine ⟨?_, h, h1⟩
 have e := cell_spot h
 rw [e] at h
 show _ < (match W.heap[(ad.add k).block]? with | some (.cells c _ _) => c.size | _ => 0)
 unfold World.cell? at h
 split at h
 ·rename_i c t f hc
  simp only [Option.isSome_none, Bool.false_eq_true, if_false] at h
  simp only at hc
  rw [hc]
  exact (Array.getElem?_eq_some_iff.1 h).1
 ·cases h
def TyFs (T : TypeId → List MV → Prop) : List Field → List MV → Prop
 | [], l => l = []
 | f :: fs, l => ∃ a b, l = a ++ b ∧ T f.type a ∧ TyFs T fs b
def ElF (P : Program) (e : TypeId) (x : MV) : Prop := match P.underlying e with | some (.struct _) => x = .agg x.cells | _ => [x] = x.cells
def TyM (P : Program) : Nat → TypeId → List MV → Prop
 | 0, _, _ => False
 | n + 1, t, l =>
  match P.underlying t with
  | some (.int k) => ∃ v, l = [.int k v] ∧ (Lit.int k v).wf = true
  | some .bool => ∃ b, l = [.bool b]
  | some .string => ∃ s, l = [.str s] ∧ s.size ≤ maxLen
  | some (.slice e) => ∃ xs, l = [.lst none (P.cellsOf e) xs] ∧ ∀ x ∈ xs, x.cells.length = P.cellsOf e ∧ TyM P n e x.cells ∧ ElF P e x
  | some (.struct fs) => TyFs (TyM P n) fs.toList l
  | _ => False
def contig (P : Program) (size : Nat) : List Field → Nat → Bool
 | [], off => Nat.beq off size
 | f :: fs, off => Nat.beq f.offset off && contig P size fs (off + P.cellsOf f.type)
def okTypes (P : Program) (ts : List TypeId) : Bool :=
 ts.all fun t => match P.underlying t with
  | some (.int _) | some .bool | some .string => true
  | some (.slice e) => natMem e ts && (match P.underlying e with | some (.struct _) => true | _ => Nat.beq (P.cellsOf e) 1)
  | some (.struct fs) => fs.toList.all (fun f => natMem f.type ts) && contig P (P.cellsOf t) fs.toList 0
  | _ => false
mutual
def szM : MV → Nat
 | .str s => s.data.toList.length + 1
 | .lst _ _ xs => szMs xs + 1
 | .agg l => szMs l + 1
 | _ => 1
def szMs : List MV → Nat
 | [] => 0
 | x :: r => szM x + szMs r
end
theorem szMs_append : ∀ a b : List MV, szMs (a ++ b) = szMs a + szMs b
 | [], b => by simp [szMs]
 | x :: a, b => by rw [List.cons_append, szMs, szMs, szMs_append a b]; omega
theorem rds_of_fields {P : Program} {W : World} {T : TypeId → List MV → Prop} {cs : List Value} {size : Nat} (hlen : cs.length = size) : ∀ (fs : List Field) (off : Nat) (zs : List Nat), contig P size fs off = true →
  (∀ (i : Nat) (f : Field), fs[i]? = some f → ∃ l, Rds (g0 W) W l ((cs.drop f.offset).take (P.cellsOf f.type)) ∧ T f.type l ∧ l.length = P.cellsOf f.type ∧ (∀ y ∈ l, y.one = true) ∧ szMs l ≤ zs.getD i 0) → ∃ l, Rds (g0 W) W l (cs.drop off) ∧ TyFs T fs l ∧ (∀ y ∈ l, y.one = true) ∧ szMs l ≤ zs.sum
 | [], off, zs, hc, _ => by
  have := Nat.eq_of_beq_eq_true hc
  refine ⟨[], ?_, rfl, (fun y hy => by cases hy), by simp [szMs]⟩
  rw [List.drop_eq_nil_of_le (by omega)]
  exact .nil _ _
 | f :: fs, off, zs, hc, h => by
  simp only [contig, Bool.and_eq_true] at hc
  have ho := Nat.eq_of_beq_eq_true hc.1
  obtain ⟨a, h1, h2, h3, h5, h6⟩ := h 0 f rfl
  obtain ⟨b, k1, k2, k3, k4⟩ := rds_of_fields hlen fs _ zs.tail hc.2 (fun i f' hf' => by
   obtain ⟨l, g1, g2, g3, g4, g5⟩ := h (i + 1) f' (by simpa using hf')
   exact ⟨l, g1, g2, g3, g4, by cases zs <;> simpa using g5⟩)
  refine ⟨a ++ b, ?_, ⟨a, b, rfl, h2, k2⟩, fun y hy => (zQ2.1 hy).elim (h5 y) (k3 y), ?_⟩
  ·have e : cs.drop off = (cs.drop off).take (P.cellsOf f.type) ++ cs.drop (off + P.cellsOf f.type) := by
    rw [← List.drop_drop, List.take_append_drop]
   rw [e]
   rw [ho] at h1
   exact h1.append k1
  ·rw [szMs_append]
   cases zs with
   | nil =>
    have h6 : szMs a ≤ 0 := by simpa using h6
    have k4 : szMs b ≤ 0 := by simpa using k4
    simp
    omega
   | cons z zs =>
    have h6 : szMs a ≤ z := by simpa using h6
    have k4 : szMs b ≤ zs.sum := by simpa using k4
    rw [List.sum_cons]
    omega
theorem tyFs_mono {T T' : TypeId → List MV → Prop} (h : ∀ t l, T t l → T' t l) : ∀ (fs : List Field) (l : List MV), TyFs T fs l → TyFs T' fs l
 | [], l, hl => hl
 | f :: fs, l, ⟨a, b, e, h1, h2⟩ => ⟨a, b, e, h _ _ h1, tyFs_mono h fs b h2⟩
theorem tyM_succ {P : Program} : ∀ (n : Nat) (t : TypeId) (l : List MV), TyM P n t l → TyM P (n + 1) t l
 | 0, t, l, h => h.elim
 | n + 1, t, l, h => by
  unfold TyM at h ⊢
  split at h
  ·rename_i k hu; exact h
  ·rename_i hu; exact h
  ·rename_i hu; exact h
  ·rename_i e hu
   obtain ⟨xs, h1, h2⟩ := h
   exact ⟨xs, h1, fun x hx => ⟨(h2 x hx).1, tyM_succ n _ _ (h2 x hx).2.1, (h2 x hx).2.2⟩⟩
  ·rename_i fs hu; exact tyFs_mono (tyM_succ n) _ _ h
  ·exact h.elim
theorem tyM_le {P : Program} {n m : Nat} (h : n ≤ m) {t : TypeId} {l : List MV} (ht : TyM P n t l) : TyM P m t l := by
 obtain ⟨d, rfl⟩ := Nat.le.dest h
 induction d with
 | zero => exact ht
 | succ d ih => exact tyM_succ _ _ _ (ih (by omega))
section
variable {H : Type} {enc : TypeId × Value → H} {P : Program} {W : World} {base : Nat} {spare : Nat → Bool} {held : Bool}
theorem common_bound {α : Type} {p : Nat → α → Prop} (hm : ∀ n m a, n ≤ m → p n a → p m a) : ∀ (l : List α), (∀ a ∈ l, ∃ n, p n a) → ∃ n, ∀ a ∈ l, p n a
 | [], _ => ⟨0, fun a h => by cases h⟩
 | a :: l, h => by
  obtain ⟨n, hn⟩ := h a (zZ1 ..)
  obtain ⟨m, hm'⟩ := common_bound hm l (fun b hb => h b (zW1 _ hb))
  refine ⟨max n m, fun b hb => ?_⟩
  rcases List.mem_cons.1 hb with rfl | hb
  ·exact hm _ _ _ (by omega) hn
  ·exact hm _ _ _ (by omega) (hm' b hb)
mutual
def dBulk : DataW H → Nat
 | .lit (.string b) => b.length + 1
 | .slice es _ => dBulkAll es + 1
 | .agg ps => dBulkAll ps + 1
 | _ => 1
def dBulkAll : List (DataW H) → Nat
 | [] => 0
 | d :: r => dBulk d + dBulkAll r
end
theorem dBulkAll_eq : ∀ l : List (DataW H), dBulkAll l = (l.map dBulk).sum
 | [] => rfl
 | d :: r => by rw [dBulkAll, dBulkAll_eq r]; rfl
theorem reads_gen {ts : List TypeId} (hok : okTypes P ts = true) : ∀ (n : Nat) (x : DataW H × List MemPlace) (fuel : Nat) (t : TypeId) (cs : List Value), SizeOf.sizeOf x.1 ≤ n → t ∈ ts → DataW.trod enc P W base spare held fuel t cs = some x →
  ∃ (l : List MV) (m : Nat), Rds (g0 W) W l cs ∧ TyM P m t l ∧ (∀ y ∈ l, y.one = true) ∧ szMs l + (match P.underlying t with | some (.struct _) => 1 | _ => 0) ≤ dBulk x.1 := by
 intro n
 induction n using Nat.strongRecOn with
 | _ n ih =>
 intro x fuel t cs hx ht h
 have hot : (match P.underlying t with
  | some (.int _) | some .bool | some .string => true
  | some (.slice e) => natMem e ts && (match P.underlying e with | some (.struct _) => true | _ => Nat.beq (P.cellsOf e) 1)
  | some (.struct fs) => fs.toList.all (fun f => natMem f.type ts) && contig P (P.cellsOf t) fs.toList 0
  | _ => false) = true := by
  simp only [okTypes, List.all_eq_true] at hok
  exact hok t ht
 split at hot
 ·rename_i k hu
  obtain ⟨v, rfl, rfl, hwf⟩ := DataW.trod_int hu h
  refine ⟨[.int k v], 1, .cons (.int _ _) (.nil _ _), ?_, by simp [MV.one], by rw [hu]; simp [szMs, szM, dBulk]⟩
  unfold TyM
  rw [hu]
  exact ⟨v, rfl, hwf⟩
 ·rename_i hu
  obtain ⟨b, rfl, rfl⟩ := DataW.trod_bool hu h
  refine ⟨[.bool b], 1, .cons (.bool _) (.nil _ _), ?_, by simp [MV.one], by rw [hu]; simp [szMs, szM, dBulk]⟩
  unfold TyM
  rw [hu]
  exact ⟨b, rfl⟩
 ·rename_i hu
  obtain ⟨s, rfl, rfl, hs⟩ := DataW.trod_string hu h
  refine ⟨[.str s], 1, .cons (.str _) (.nil _ _), ?_, by simp [MV.one], by rw [hu]; simp [szMs, szM, dBulk]⟩
  unfold TyM
  rw [hu]
  exact ⟨s, rfl, hs⟩
 ·rename_i e hu
  simp only [Bool.and_eq_true] at hot
  have he : e ∈ ts := natMem_iff.1 hot.1
  rcases open_slice hu h with ⟨rfl, rfl⟩ | ⟨a, len, cap, m, n', D, Pl, rfl, hb, hl, hm, hmm, rfl, hi⟩
  ·refine ⟨[.lst none (P.cellsOf e) []], 1, .cons (Sub.nil _ _ _ _ .lst0) (.nil _ _), ?_, by simp [MV.one], by rw [hu]; simp [szMs, szM, dBulk]⟩
   unfold TyM
   rw [hu]
   exact ⟨[], rfl, fun x hx => by cases hx⟩
  ·have hlm : len ≤ m := by rw [hmm]; split <;> omega
   have hel : ∀ i, i < len → ∃ (l : List MV) (k : Nat) (us : List Value), us.length = P.cellsOf e ∧ Rds (g0 W) W l us ∧ TyM P k e l ∧ ((∀ y ∈ l, y.one = true) ∧ szMs l + (match P.underlying e with | some (.struct _) => 1 | _ => 0) ≤ dBulk (D i)) ∧ ∀ j, j < P.cellsOf e → W.cell? ((a.add (i * P.cellsOf e)).add j) = us[j]? := by
    intro i hil
    obtain ⟨cs', hc, ht'⟩ := hi i (by omega)
    obtain ⟨_, hlen, hcell⟩ := World.cells?_some hc
    have hsz : SizeOf.sizeOf (D i) < n := by
     have hmem : D i ∈ (List.range len).map D := List.mem_map.2 ⟨i, List.mem_range.2 hil, rfl⟩
     have := List.sizeOf_lt_of_mem hmem
     simp only [DataW.slice.sizeOf_spec] at hx
     omega
    obtain ⟨l, k, h1, h2, h3⟩ := ih _ hsz (D i, Pl i) n' e cs' (Nat.le_refl _) he ht'
    exact ⟨l, k, cs', hlen, h1, h2, h3, hcell⟩
   have hall : ∀ (N : Nat), N ≤ len → ∃ (xs : List MV) (us : List Value) (k : Nat), xs.length = N ∧ us.length = N * P.cellsOf e ∧ Rds (g0 W) W (flat xs) us ∧ (∀ y ∈ flat xs, y.one = true) ∧ (∀ x ∈ xs, x.cells.length = P.cellsOf e ∧ TyM P k e x.cells ∧ ElF P e x) ∧
     (∀ j, j < N * P.cellsOf e → W.cell? (a.add j) = us[j]?) ∧ szMs xs ≤ (((List.range N).map D).map dBulk).sum := by
    intro N
    induction N with
    | zero => exact fun _ => ⟨[], [], 0, rfl, by simp, .nil _ _, by simp [flat], by simp, by simp, by simp [szMs]⟩
    | succ N ihN =>
     intro hN
     obtain ⟨xs, us, k, q1, q2, q3, q4, q5, q6, q7⟩ := ihN (by omega)
     obtain ⟨l, k', us', r1, r2, r3, ⟨r4, r6⟩, r5⟩ := hel N (by omega)
     have hll : l.length = P.cellsOf e := by rw [← r2.1, r1]
     obtain ⟨y, hy1, hy2, hy3⟩ : ∃ y : MV, y.cells = l ∧ ElF P e y ∧ szM y ≤ dBulk (D N) := by
      cases hue : P.underlying e with
      | none => 
       have hk1 : P.cellsOf e = 1 := by have := hot.2; rw [hue] at this; exact Nat.eq_of_beq_eq_true this
       match l, hll.trans hk1 with
       | [y], _ =>
        have := r4 y (zZ1 ..)
        simp only [ElF, hue]
        rw [hue] at r6
        have r7 : szM y ≤ dBulk (D N) := by simpa [szMs] using r6
        refine ⟨y, ?_, ?_, r7⟩ <;> (cases y <;> first | rfl | (cases this; done))
      | some d =>
       cases d with
       | struct fs =>
        rw [hue] at r6
        exact ⟨.agg l, rfl, by simp only [ElF, hue]; rfl, r6⟩
       | _ =>
        have hk1 : P.cellsOf e = 1 := by have := hot.2; rw [hue] at this; exact Nat.eq_of_beq_eq_true this
        match l, hll.trans hk1 with
        | [y], _ =>
         have := r4 y (zZ1 ..)
         simp only [ElF, hue]
         rw [hue] at r6
         have r7 : szM y ≤ dBulk (D N) := by simpa [szMs] using r6
         refine ⟨y, ?_, ?_, r7⟩ <;> (cases y <;> first | rfl | (cases this; done))
     refine ⟨xs ++ [y], us ++ us', max k k', by simp [q1], by rw [zE, q2, r1, Nat.add_mul]; omega, ?_, ?_, ?_, ?_, by rw [szMs_append, List.range_succ, List.map_append, List.map_append, List.sum_append, show ((([N] : List Nat).map D).map dBulk).sum = dBulk (D N) by simp, show szMs [y] = szM y by simp [szMs]]; omega⟩
     ·rw [flat_append]
      refine q3.append ?_
      simp only [flat, List.flatMap_cons, List.flatMap_nil, List.append_nil, hy1]
      exact r2
     ·intro z hz
      rw [flat_append, zQ2] at hz
      rcases hz with hz | hz
      ·exact q4 z hz
      ·simp only [flat, List.flatMap_cons, List.flatMap_nil, List.append_nil, hy1] at hz
       exact r4 z hz
     ·intro x hx
      rcases zQ2.1 hx with hx | hx
      ·exact ⟨(q5 x hx).1, tyM_le (by omega) (q5 x hx).2.1, (q5 x hx).2.2⟩
      ·simp at hx
       subst hx
       rw [hy1]
       exact ⟨hll, tyM_le (by omega) r3, hy2⟩
     ·intro j hj
      rw [Nat.add_mul, Nat.one_mul] at hj
      by_cases hjl : j < N * P.cellsOf e
      ·rw [List.getElem?_append_left (by omega)]
       exact q6 j hjl
      ·rw [List.getElem?_append_right (by omega), q2, ← r5 (j - N * P.cellsOf e) (by omega), Go.MV.add_add]
       congr 2
       omega
   obtain ⟨xs, us, k, q1, q2, q3, q4, q5, q6, q7⟩ := hall len (Nat.le_refl _)
   refine ⟨[.lst none (P.cellsOf e) xs], k + 1, .cons (.lst' q1 hl hm (fun x hx => (q5 x hx).1) q3 (fun j u hu => ⟨a, rfl, stab0 ?_ ?_⟩) (fun t ht => by cases ht)) (.nil _ _), ?_, by simp [MV.one], by rw [hu]; simp only [szMs, szM, dBulk, dBulkAll_eq]; omega⟩
   ·have hj : j < us.length := (zD.1 hu).1
    rw [q6 j (by omega)]
    exact hu
   ·have hj : j < us.length := (zD.1 hu).1
    have hjf : j < (flat xs).length := by rw [← q3.1]; exact hj
    exact one_cell (q3.2 j _ u (zC hjf) hu) (q4 _ (List.getElem_mem hjf))
   ·unfold TyM
    rw [hu]
    exact ⟨xs, rfl, q5⟩
 ·rename_i fs hu
  simp only [Bool.and_eq_true, List.all_eq_true] at hot
  obtain ⟨xs, n', rfl, rfl, hlen, hxl, hf⟩ := DataW.trod_struct hu h
  have hfld : ∀ (i : Nat) (f : Field), fs.toList[i]? = some f → ∃ (k : Nat) (l : List MV), Rds (g0 W) W l ((cs.drop f.offset).take (P.cellsOf f.type)) ∧ TyM P k f.type l ∧ (∀ y ∈ l, y.one = true) ∧ szMs l ≤ ((xs.map (·.1)).map dBulk).getD i 0 := by
   intro i f hi
   have hfm := zW hi
   have hi' : fs[i]? = some f := by simpa using hi
   have hilt : i < xs.length := by rw [hxl]; exact (Array.getElem?_eq_some_iff.1 hi').1
   have htr := hf i f hi'
   rw [zC hilt] at htr
   have hsz : SizeOf.sizeOf xs[i].1 < n := by
    have hmem : xs[i].1 ∈ xs.map (·.1) := List.mem_map.2 ⟨xs[i], List.getElem_mem hilt, rfl⟩
    have := List.sizeOf_lt_of_mem hmem
    simp only [DataW.agg.sizeOf_spec] at hx
    omega
   obtain ⟨l, k, h1, h2, h3⟩ := ih _ hsz xs[i] n' f.type _ (Nat.le_refl _) (natMem_iff.1 (hot.1 f hfm)) htr
   refine ⟨k, l, h1, h2, h3.1, ?_⟩
   have : ((xs.map (·.1)).map dBulk).getD i 0 = dBulk xs[i].1 := by simp [hilt]
   rw [this]
   have := h3.2
   omega
  obtain ⟨K, hK⟩ := common_bound (p := fun k (q : Nat × Field) => ∃ l : List MV, Rds (g0 W) W l ((cs.drop q.2.offset).take (P.cellsOf q.2.type)) ∧ TyM P k q.2.type l ∧ (∀ y ∈ l, y.one = true) ∧ szMs l ≤ ((xs.map (·.1)).map dBulk).getD q.1 0) (fun a b f hab ⟨l, h1, h2, h3⟩ => ⟨l, h1, tyM_le hab h2, h3⟩) (fs.toList.zipIdx.map fun p => (p.2, p.1)) (fun q hq => by
   obtain ⟨p, hp, rfl⟩ := List.mem_map.1 hq
   exact hfld p.2 p.1 (List.mem_zipIdx_iff_getElem?.1 hp))
  replace hK : ∀ (i : Nat) (f : Field), fs.toList[i]? = some f → ∃ l : List MV, Rds (g0 W) W l ((cs.drop f.offset).take (P.cellsOf f.type)) ∧ TyM P K f.type l ∧ (∀ y ∈ l, y.one = true) ∧ szMs l ≤ ((xs.map (·.1)).map dBulk).getD i 0 := fun i f hi => hK (i, f) (List.mem_map.2 ⟨(f, i), List.mem_zipIdx_iff_getElem?.2 hi, rfl⟩)
  have hcont := hot.2
  have hlens : ∀ (gs : List Field) (off : Nat), contig P (P.cellsOf t) gs off = true → off ≤ P.cellsOf t ∧ ∀ f ∈ gs, f.offset + P.cellsOf f.type ≤ P.cellsOf t := by
   intro gs
   induction gs with
   | nil => exact fun off hc => ⟨Nat.le_of_eq (Nat.eq_of_beq_eq_true hc), fun f hf => by cases hf⟩
   | cons f gs ihg =>
    intro off hc
    simp only [contig, Bool.and_eq_true] at hc
    have ho := Nat.eq_of_beq_eq_true hc.1
    obtain ⟨h1, h2⟩ := ihg _ hc.2
    refine ⟨by omega, fun f' hf' => ?_⟩
    rcases List.mem_cons.1 hf' with rfl | hf'
    ·omega
    ·exact h2 f' hf'
  obtain ⟨l, h1, h2, h3⟩ := rds_of_fields (P := P) (W := W) (T := TyM P K) hlen fs.toList 0 ((xs.map (·.1)).map dBulk) hcont (fun i f hi => by
   obtain ⟨l, h1, h2, h3⟩ := hK i f hi
   refine ⟨l, h1, h2, ?_, h3⟩
   have := (hlens _ _ hcont).2 f (zW hi)
   rw [← h1.1, List.length_take, List.length_drop, hlen]
   omega)
  refine ⟨l, K + 1, by simpa using h1, ?_, h3.1, by rw [hu]; simp only [dBulk, dBulkAll_eq]; have := h3.2; omega⟩
  unfold TyM
  rw [hu]
  exact h2
 ·cases hot
end
section
variable {H : Type} {enc : TypeId × Value → H} {P : Program} {W : World} {base b0 : Nat} {spare : Nat → Bool} {held : Bool} {r : Reach}
theorem arg_one {ts : List TypeId} (hok : okTypes P ts = true) {t : TypeId} (ht : t ∈ ts) {v : Value} {d : DataW H} {p : List MemPlace} (hv : v.cells = #[v]) (h : DataW.Trod enc P W base spare held t v d p) :
  ∃ (l : List MV) (m : Nat), Rds (g0 W) W l [v] ∧ TyM P m t l := by
 obtain ⟨fuel, hf⟩ := h
 rw [hv] at hf
 obtain ⟨l, m, h1, h2, _⟩ := reads_gen hok _ _ _ _ _ (Nat.le_refl _) ht hf
 exact ⟨l, m, h1, h2⟩
end
theorem law_calls {P : Program} {f : FuncId} {xs : List MV} {W : World} {vs : List Value} (h : MCalls P f xs [] fun v σ' => v = .bool true ∧ σ' = []) (hr : Rds (g0 W) W xs vs) : Calls P f vs.toArray W fun e w' => e = .returned (.bool true) ∧ Below W.heap.size W w' := by
 refine (callsIn_wide.1 (h (g0 W) W vs (rel0 W) hr)).mono ?_
 rintro e w' ⟨v, rfl, x, σ', g', ⟨rfl, rfl⟩, hrel, hrd, hle⟩
 rw [hrd.inv_bool]
 have := hrel.below
 rw [hle.B, hle.w0] at this
 exact ⟨rfl, this⟩
end
end Go.MV
namespace Go.MV
open Go Go.RowKit Go.WideShapes Go.ChangeShapes
section
section
variable {H : Type} {enc : TypeId × Value → H} {P : Program} {W : World} {base b0 : Nat} {spare : Nat → Bool} {held : Bool} {r : Reach} {ts : List TypeId} {t : TypeId} {v : Value} {d : DataW H} {p : List MemPlace}
theorem tyM_intK {k : IntKind} (hu : P.underlying t = some (.int k)) {n : Nat} {l : List MV} (h : TyM P n t l) : ∃ v, l = [.int k v] ∧ (Lit.int k v).wf = true := by
 cases n with
 | zero => exact h.elim
 | succ n => unfold TyM at h; rw [hu] at h; exact h
theorem rd_of_rds {g : Gh} {w : World} {m : MV} {v : Value} (h : Rds g w [m] [v]) : Rd g w m v := h.2 0 _ _ rfl rfl
theorem arg_int {k : IntKind} (hok : okTypes P ts = true) (ht : t ∈ ts) (hu : P.underlying t = some (.int k)) (hv : Value.okWide P W r b0 t v) (h : DataW.Trod enc P W base spare held t v d p) : ∃ n, Rd (g0 W) W (.int k n) v ∧ (Lit.int k n).wf = true := by
 obtain ⟨n, rfl⟩ := okWide_int hu hv
 obtain ⟨l, m, h1, h2⟩ := arg_one hok ht rfl h
 obtain ⟨n', rfl, hw⟩ := tyM_intK hu h2
 exact ⟨n', rd_of_rds h1, hw⟩
theorem wf_u8 {n : Int} (h : (Lit.int .u8 n).wf = true) : ∃ m : Nat, n = (m : Int) ∧ m ≤ 255 := by
 simp [Lit.wf, IntKind.min, IntKind.max, IntKind.signed, IntKind.bits] at h
 exact ⟨n.toNat, by omega, by omega⟩
end
end
end Go.MV
namespace Go.Proofs.YtciimaabeabkdaaGreatDoor
open Go Go.MV
theorem sz_mk (n m : Int) (s : List Bs) (c : List (List Tk)) (w : List Val) : szM (encV (.mk n m s c w)) = szMs (s.map encX) + szMs (c.map encC) + szMs (encVs w) + 6 := by
 simp [encV, szM, szMs]
 omega
end Go.Proofs.YtciimaabeabkdaaGreatDoor
namespace Go.Proofs.YtciimaabeabkdaaGreatDoor
open Go Go.MV Go.RowKit
theorem numB_one {m : Nat} (h : m < 128) : (numB m).length = 1 := by rw [numB_lo h]; rfl
theorem numB_ten {m : Nat} (h : m < 18446744073709551616) : (numB m).length ≤ 10 := zN3 9 m (by omega)
theorem numB_pos1 (m : Nat) : 1 ≤ (numB m).length := by
 rw [numB]
 split <;> simp
theorem sz_text (x : Bs) : szM (encX x) = x.length + 1 := by simp [encX, szM, bs]
theorem text_len {x : Bs} (h : x.length ≤ 16) : (textB x).length = szM (encX x) := by
 rw [sz_text, textB, zE, numB_one (by omega)]
 omega
theorem texts_len : ∀ {s : List Bs}, (∀ x ∈ s, x.length ≤ 16) → (s.flatMap textB).length = szMs (s.map encX)
 | [], _ => rfl
 | x :: s, h => by
  rw [List.flatMap_cons, zE, List.map_cons, szMs, text_len (h x (.head _)), texts_len fun y hy => h y (.tail _ hy)]
theorem clk_len {c : List Tk} (h : ∀ t ∈ c, (0 ≤ t.1 ∧ t.1 ≤ 1000000) ∧ okTk t) : (c.flatMap tkB).length ≤ 13 * c.length := by
 induction c with
 | nil => simp
 | cons t c ih =>
  have h1 := ih fun x hx => h x (.tail _ hx)
  obtain ⟨⟨a, b⟩, e, f⟩ := h t (.head _)
  have h2 := numB_len (show t.1.toNat < 2097152 by omega)
  have h3 := numB_ten (show t.2.toNat < 18446744073709551616 by omega)
  rw [List.flatMap_cons, zE, zF0, tkB, zE]
  omega
theorem sz_ticks : ∀ (c : List Tk), szMs (c.map encT) = 3 * c.length
 | [] => rfl
 | t :: c => by rw [List.map_cons, szMs, sz_ticks c, show szM (encT t) = 3 from rfl, zF0]; omega
theorem sz_clk (c : List Tk) : szM (encC c) = 3 * c.length + 1 := by rw [encC, szM, sz_ticks]
theorem clkB_len {c : List Tk} (h : isClockF c = true) (ho : ∀ t ∈ c, okTk t) : 1 ≤ (rowB tkB c).length ∧ (rowB tkB c).length ≤ 5 * szM (encC c) := by
 obtain ⟨h1, h2⟩ := clk_who h
 have h3 := clk_len (c := c) fun t ht => ⟨h2 t ht, ho t ht⟩
 rw [rowB, zE, numB_one (by omega), sz_clk]
 omega
theorem ents_len {E : Val → Bs} : ∀ {s : List Bs} {w : List Val}, (∀ x ∈ s, x.length ≤ 16) → (∀ x ∈ w, (E x).length ≤ 5 * szM (encV x)) → ((s.zip w).flatMap (entB E)).length ≤ szMs (s.map encX) + 5 * szMs (encVs w)
 | [], w, _, _ => by simp
 | x :: s, [], _, _ => by simp
 | x :: s, y :: w, h1, h2 => by
  have h3 := ents_len (fun z hz => h1 z (.tail _ hz)) (fun z hz => h2 z (.tail _ hz))
  have h4 := h2 y (.head _)
  rw [List.zip_cons_cons, List.flatMap_cons, zE, entB, zE]
  dsimp only
  rw [text_len (h1 x (.head _)), List.map_cons, szMs, encVs, szMs]
  omega
theorem sibs_len {E : Val → Bs} : ∀ {c : List (List Tk)} {w : List Val}, (∀ x ∈ c, (rowB tkB x).length ≤ 5 * szM (encC x)) → (∀ x ∈ w, (E x).length ≤ 5 * szM (encV x)) → ((c.zip w).flatMap (sibB E)).length ≤ 5 * szMs (c.map encC) + 5 * szMs (encVs w)
 | [], w, _, _ => by simp
 | x :: s, [], _, _ => by simp
 | x :: s, y :: w, h1, h2 => by
  have h3 := sibs_len (fun z hz => h1 z (.tail _ hz)) (fun z hz => h2 z (.tail _ hz))
  have h4 := h2 y (.head _)
  have h5 := h1 x (.head _)
  rw [List.zip_cons_cons, List.flatMap_cons, zE, sibB, zE]
  dsimp only
  rw [List.map_cons, szMs, encVs, szMs]
  omega
theorem valB_len : ∀ (d : Nat) (s : Sch), isF d s = true → ∀ v, isOk s v → 1 ≤ (valB s v).length ∧ (valB s v).length ≤ 5 * szM (encV v)
 | 0, s, h, v, _ => by simp [isF] at h
 | d + 1, .mk k ins, h, .mk n m s c w, hv => by
  simp only [isF, Bool.and_eq_true, beq_iff_eq, List.all_eq_true] at h
  have ho := hv.2
  have hov := ok_vals hv.2
  rw [okV] at ho
  rw [sz_mk]
  rcases kinds h.1 with ⟨hk, rfl⟩ | ⟨rfl, rfl⟩ | ⟨rfl, rfl⟩ | ⟨rfl, rfl⟩ | ⟨s1, rfl, rfl⟩ | ⟨s1, rfl, rfl⟩ | ⟨s1, s2, rfl, rfl⟩
  ·have h1 := numB_ten (show n.toNat < 18446744073709551616 by omega)
   have h2 := numB_pos1 n.toNat
   rw [valB, kindB, if_pos (by omega), flatB, if_neg (by omega)]
   omega
  ·obtain ⟨rfl, rfl, rfl, rfl, h1, h2⟩ := bare_set hv.1
   rw [valB, kindB, if_pos (by omega), flatB, if_pos rfl, rowB, zE, numB_one (by omega), texts_len h2]
   omega
  ·have h1 := numB_ten (show n.toNat < 18446744073709551616 by omega)
   have h2 := numB_ten (show m.toNat < 18446744073709551616 by omega)
   rw [valB, kindB, if_neg (by omega), if_neg (by omega), if_neg (by omega), if_pos rfl]
   obtain ⟨rfl, rfl, ⟨rfl, rfl, rfl⟩ | ⟨t, rfl, ht⟩⟩ := bare_last hv.1
   ·rw [lastB, Val.sv, zE, numB_one (by simp)]
    simp only [List.flatMap_nil, List.length_nil]
    omega
   ·have h3 := text_len ht
    rw [lastB, zE, Val.sv, numB_one (by simp), List.flatMap_cons, List.flatMap_nil, List.append_nil, zE, zE, h3, Val.nv, Val.mv]
    simp only [List.map_cons, List.map_nil, szMs]
    omega
  ·rw [valB, kindB, if_neg (by omega), if_neg (by omega), if_neg (by omega), if_neg (by omega), if_pos rfl, oneB]
   obtain ⟨rfl, rfl, rfl, rfl, rfl | ⟨x, rfl, hx, hc⟩⟩ := bare_one hv.1
   ·rw [Val.cv, List.headD_nil, rowB, zE, numB_one (by simp)]
    simp only [List.flatMap_nil, List.length_nil]
    omega
   ·have := clkB_len hc (ho.2.2.1 x (by simp))
    simp only [Val.cv, List.headD_cons, List.map_cons, List.map_nil, szMs]
    omega
  ·obtain ⟨rfl, rfl, rfl, hl, hs, hw⟩ := bare_map hv.1
   have hE := ents_len (E := valB s1) hs.2 (w := w) fun x hx => (valB_len d s1 (h.2 s1 (by simp)) x ⟨hw x hx, hov x hx⟩).2
   rw [valB, kindB, if_neg (by omega), if_pos rfl, valBs, List.headD_cons, mapB, entsB, zE, Val.sv, Val.vv, zip_len hl, numB_one (by omega)]
   omega
  ·obtain ⟨rfl, rfl, rfl, hl, hs, hw⟩ := bare_sibs hv.1
   have hE := sibs_len (E := valB s1) (c := c) (fun x hx => (clkB_len (hs.2 x hx) (ho.2.2.1 x hx)).2) (w := w) fun x hx => (valB_len d s1 (h.2 s1 (by simp)) x ⟨hw x hx, hov x hx⟩).2
   rw [valB, kindB, if_neg (by omega), if_neg (by omega), if_neg (by omega), if_neg (by omega), if_neg (by omega), valBs, List.headD_cons, sibsB, rowB, zE, Val.cv, Val.vv, zip_len hl, numB_one (by omega)]
   omega
  ·obtain ⟨rfl, rfl, rfl, rfl, x, y, rfl, q1, q2⟩ := bare_pair hv.1
   have hE := valB_len d s1 (h.2 s1 (by simp)) x ⟨q1, hov x (by simp)⟩
   have hF := valB_len d s2 (h.2 s2 (by simp)) y ⟨q2, hov y (by simp)⟩
   rw [valB, kindB, if_neg (by omega), if_neg (by omega), if_pos rfl, valBs, valBs, List.headD_cons, List.tail_cons, List.headD_cons, pairB, zE]
   simp only [Val.vv, List.headD_cons, List.tail_cons, encVs, szMs]
   omega
theorem flatG_take {α : Type} {G : α → Bs} {s : List α} {i : Nat} {x : α} (h : s[i]? = some x) : (s.take (i + 1)).flatMap G = (s.take i).flatMap G ++ G x := by
 rw [List.take_add_one, h, List.flatMap_append]
 simp
theorem flatG_le {α : Type} {G : α → Bs} {s : List α} {i : Nat} {x : α} (h : s[i]? = some x) : ((s.take i).flatMap G).length + (G x).length ≤ (s.flatMap G).length := by
 have h1 : (s.take (i + 1)).flatMap G ++ (s.drop (i + 1)).flatMap G = s.flatMap G := by rw [← List.flatMap_append, List.take_append_drop]
 have h2 := congrArg List.length h1
 rw [flatG_take h] at h2
 simp only [zE] at h2
 omega
theorem WritesN.nx {k : FuncId} {id t : Nat} {xs : List MV} {s l m : Bs} {S : MS} (hw : WritesN k id t xs s) (h : PrAt S id t l) (hl : m.length + s.length ≤ 9000000) (L : MS) : MCalls Tryz.prog k xs (pr S id t m ++ L) fun v σ' => v = .tup [] ∧ σ' = pr S id t (m ++ s) ++ L :=
 (hw.sl (h.pr m) hl L).mono fun v σ' hv => ⟨hv.1, hv.2.trans (by rw [pr_pr h])⟩
theorem Writes.nx {k : FuncId} {id t : Nat} {xs : List MV} {s l m : Bs} {S : MS} (hw : Writes k id t xs s) (h : PrAt S id t l) (hl : m.length + s.length ≤ 8000000) (L : MS) : MCalls Tryz.prog k xs (pr S id t m ++ L) fun v σ' => v = .tup [] ∧ σ' = pr S id t (m ++ s) ++ L :=
 (hw.sl (h.pr m) hl L).mono fun v σ' hv => ⟨hv.1, hv.2.trans (by rw [pr_pr h])⟩
theorem write_nx {S : MS} {id t : Nat} {l m : Bs} (h : PrAt S id t l) (s : Bs) (hlen : m.length + s.length ≤ 10000000) (L : MS) : MCalls Tryz.prog 125 [.ref id 0, .str (bs s)] (pr S id t m ++ L) fun v σ' => v = .tup [.int .i64 (s.length : Int), .iface0] ∧ σ' = pr S id t (m ++ s) ++ L :=
 (write_at (h.pr m) s hlen L).mono fun v σ' hv => ⟨hv.1, hv.2.trans (by rw [pr_pr h])⟩
theorem clock_sl (c : List Tk) (hc : c.length ≤ 1000) (hc0 : ∀ t ∈ c, okW t) (id t : Nat) {l : Bs} {S : MS} (h : PrAt S id t l) (hl : l.length ≤ 8000000) (L : MS) : MCalls Tryz.prog 195 [.ref id 0, encC c] (S ++ L) fun v σ' => v = .tup [] ∧ σ' = pr S id t (l ++ rowB tkB c) ++ L :=
 (clock_writes c hc hc0 id t l _ (h.sl L) hl).mono fun v σ' hv => ⟨hv.1, hv.2.trans (by rw [pr_sl h])⟩
theorem clock_nx (c : List Tk) (hc : c.length ≤ 1000) (hc0 : ∀ t ∈ c, okW t) (id t : Nat) {l m : Bs} {S : MS} (h : PrAt S id t l) (hl : m.length ≤ 8000000) (L : MS) : MCalls Tryz.prog 195 [.ref id 0, encC c] (pr S id t m ++ L) fun v σ' => v = .tup [] ∧ σ' = pr S id t (m ++ rowB tkB c) ++ L :=
 (clock_sl c hc hc0 id t (h.pr m) hl L).mono fun v σ' hv => ⟨hv.1, hv.2.trans (by rw [pr_pr h])⟩
theorem pair_writes (k1 k2 : Int) (i1 i2 : List Sch) (B1 B2 : Bs) (n m : Int) (s : List Bs) (c : List (List Tk)) (x y : Val) (id t : Nat) (hE : Writes 153 id t [.ref id 0, encS (.mk k1 i1), encV x] B1) (hF : Writes 153 id t [.ref id 0, encS (.mk k2 i2), encV y] B2) : Writes 153 id t [.ref id 0, encS (.mk 5 [.mk k1 i1, .mk k2 i2]), encV (.mk n m s c [x, y])] (B1 ++ B2) := by
 intro l S h hl
 obtain ⟨n8, m8, s8, c8, w8⟩ := x
 obtain ⟨n9, m9, s9, c9, w9⟩ := y
 refine zR zA4 V zG4 (zA V) ?_
 refine zG1 fun _ hcl => ?_
 rw [List.append_nil] at hcl
 rw [zE] at hl
 refine zB <| qR V <| qB V V V V V <| qB V V V V V <| qN <| zB <| qR V <| qF V V V zB2 <| qO V <| zI1 (by simp [zL2]) V V V ta3 V ?_
 refine qN <| zB0 <| zB <| zB <| qR V <| qC V V V V V <| qA V V V <| qN <| zK V (V) <| qR V <| qC V V V V V <| qA V V V <| qN <| zK V (V) <| zB <| zB <| qR V <| qC V V V V V <| qA V V V <| qN <| zK V (V) <| qR V <| qC V V V V V ?_
 refine qA V V V <| qN <| zK V (V) <| zB <| qR V <| qC V V V V V <| qA V V V <| qN <| zU V (V) <| zB ?_
 refine zW0 [9] [_, pr S id t (l ++ B1) ++ [.cells (encS (.mk 5 [.mk k1 i1, .mk k2 i2])).cells, .cells (encV (.mk n m s c [.mk n8 m8 s8 c8 w8, .mk n9 m9 s9 c9 w9])).cells]] mo (by decide) V V V V ?_
 refine dO V V V (zY V V Vv) <| zN V V (.cons (zG V V zG3 Vv) (.cons (zG V V zG3 Vv) (.nil))) <| zN V V (.cons (zI1 (by simp [zL2]) V V V ta51 V Vv) (.cons (zI1 (by simp [zL2]) V V V ta51 V Vv) (.nil))) ?_
 refine zN V V (.cons (zI V zO0 sz53 (by decide) V V V (show _ = some (encS (.mk k1 i1)) from V) Vv) (.cons (zI V zO0 sz53 (by decide) V V V (show _ = some (encS (.mk k1 i1)) from V) Vv) (.nil))) ?_
 refine dO V V V (zL V V ta53 V Vv) <| zN V V (.cons (zG V V zG2 Vv) (.cons (zG V V zG2 Vv) (.nil))) <| zN V V (.cons (zI1 (by simp [zL2]) V V V ta25 V Vv) (.cons (zI1 (by simp [zL2]) V V V ta25 V Vv) (.nil))) ?_
 refine zN V V (.cons (zI V zG0 sz27 (by decide) V V V (show _ = some (encV (.mk n8 m8 s8 c8 w8)) from V) Vv) (.cons (zI V zG0 sz27 (by decide) V V V (show _ = some (encV (.mk n8 m8 s8 c8 w8)) from V) Vv) (.nil))) ?_
 refine dO V V V (zL V V ta27 V Vv) <| zV0 V V V V (zT0 V V V co153 ((hE.sl h (by omega) _))) ?_
 refine zQ0 ?_
 refine zW0 [9] [_, pr S id t (l ++ B1 ++ B2) ++ [.cells (encS (.mk 5 [.mk k1 i1, .mk k2 i2])).cells, .cells (encV (.mk n m s c [.mk n8 m8 s8 c8 w8, .mk n9 m9 s9 c9 w9])).cells]] mo (by decide) V V V V ?_
 refine dO V V V (zY V V Vv) <| zN V V (.cons (zG V V zG3 Vv) (.cons (zG V V zG3 Vv) (.nil))) <| zN V V (.cons (zI1 (by simp [zL2]) V V V ta51 V Vv) (.cons (zI1 (by simp [zL2]) V V V ta51 V Vv) (.nil))) ?_
 refine zN V V (.cons (zI V zO0 sz53 (by decide) V V V (show _ = some (encS (.mk k2 i2)) from V) Vv) (.cons (zI V zO0 sz53 (by decide) V V V (show _ = some (encS (.mk k2 i2)) from V) Vv) (.nil))) ?_
 refine dO V V V (zL V V ta53 V Vv) <| zN V V (.cons (zG V V zG2 Vv) (.cons (zG V V zG2 Vv) (.nil))) <| zN V V (.cons (zI1 (by simp [zL2]) V V V ta25 V Vv) (.cons (zI1 (by simp [zL2]) V V V ta25 V Vv) (.nil))) ?_
 refine zN V V (.cons (zI V zG0 sz27 (by decide) V V V (show _ = some (encV (.mk n9 m9 s9 c9 w9)) from V) Vv) (.cons (zI V zG0 sz27 (by decide) V V V (show _ = some (encV (.mk n9 m9 s9 c9 w9)) from V) Vv) (.nil))) ?_
 refine dO V V V (zL V V ta27 V Vv) <| zV0 V V V V (zT0 V V V co153 (hF.nx h (by rw [zE]; omega) _)) ?_
 refine zQ0 ?_
 exact zN2 (by simp) zU3 (by rw [zL2]; exact Nat.le_refl _) (cls_pr hcl h.idl h.tl) ⟨rfl, by rw [zO]⟩
theorem last_writes (ins : List Sch) (n m : Nat) (hn : n < 18446744073709551616) (hm : m < 18446744073709551616) (s : List Bs) (c : List (List Tk)) (w : List Val) (hsl : s.length ≤ 1000) (hs0 : ∀ x ∈ s, x.length ≤ 1000) (id t : Nat) : Writes 153 id t [.ref id 0, encS (.mk 6 ins), encV (.mk (n : Int) (m : Int) s c w)] (numB s.length ++ s.flatMap (fun x => numB n ++ (numB m ++ textB x))) := by
 intro l S h hl
 refine zR zA4 V zG4 (zA V) ?_
 refine zG1 fun _ hcl => ?_
 rw [List.append_nil] at hcl
 have hlen' : s.length ≤ maxLen := by simp only [maxLen]; omega
 have hnb := zN3 9 s.length (by omega)
 have hn1 := numB_ten hn
 have hm1 := numB_ten hm
 rw [zE] at hl
 refine zB <| qR V <| qB V V V V V <| qB V V V V V <| qN <| zB <| qR V <| qF V V V zB2 <| qO V <| zI1 (by simp [zL2]) V V V ta3 V ?_
 refine qN <| zB0 <| zB <| zB <| qR V <| qC V V V V V <| qA V V V <| qN <| zK V (V) <| qR V <| qC V V V V V <| qA V V V <| qN <| zK V (V) <| zB <| zB <| qR V <| qC V V V V V <| qA V V V <| qN <| zK V (V) <| qR V <| qC V V V V V ?_
 refine qA V V V <| qN <| zK V (V) <| zB <| qR V <| qC V V V V V <| qA V V V <| qN <| zK V (V) <| zB <| qR V <| qC V V V V V <| qA V V V <| qN <| zU V (V) <| zB <| qR V <| qM V V V <| qF V V V zZ2 <| qO V <| zI1 (by simp [zL2]) V V V ta23 V ?_
 refine qE V V zE0 V <| qO V <| zL3 V zX2 zD3 V (zK5 (by rw [zF]; omega)) ?_
 rw [zF]
 refine qX V V V V co194 ((zF4 id t s.length (by omega)).sl h (by omega) _) ?_
 refine qN <| zB <| qR V <| qF V V V zZ2 <| qO V <| zI1 (by simp [zL2]) V V V ta23 V ?_
 refine qE V V zE0 V <| qM V V V <| qN <| zB0 ?_
 show mwp _ _ _ _ _ _ _ (([] : MS) ++ (pr S id t (l ++ numB s.length) ++ [.cells (encS (.mk 6 ins)).cells, .cells (encV (.mk (n : Int) (m : Int) s c w)).cells]))
 refine zK2 (α := Nat) [(0, _), (5, _), (120, _), (121, _)] (fun i => [(122, .int .i64 (i : Int))]) (fun i => (pr S id t (l ++ numB s.length ++ (s.take i).flatMap (fun x => numB n ++ (numB m ++ textB x))) ++ [.cells (encS (.mk 6 ins)).cells, .cells (encV (.mk (n : Int) (m : Int) s c w)).cells])) (fun i => i ≤ s.length) (fun i => s.length - i) (0) (.keep V (.keep V (.keep V (.keep V (.nil))))) (.keep V (.nil)) (by omega) (by simp) ?_
 rintro i hi
 show mwp _ _ _ _ _ _ _ (pr S id t (l ++ numB s.length ++ (s.take i).flatMap (fun x => numB n ++ (numB m ++ textB x))) ++ [.cells (encS (.mk 6 ins)).cells, .cells (encV (.mk (n : Int) (m : Int) s c w)).cells])
 have hw := h.pr (l ++ numB s.length ++ (s.take i).flatMap (fun x => numB n ++ (numB m ++ textB x)))
 refine zB <| qR V <| qC V V V V V <| qN <| zB ?_
 refine zM V (fun h123 => ?_) (fun h123 => ?_)
 ·
  have hlt : i < s.length := by simpa using h123
  obtain ⟨x, hs⟩ : ∃ q_, s[i]? = some q_ := ⟨_, zC hlt⟩
  have hx := hs0 x (zW hs)
  have hle := flatG_le (G := (fun x => numB n ++ (numB m ++ textB x))) hs
  simp only [zE] at hle
  have hxl := (numB_len (show x.length < 2097152 by omega)).2
  have hxt : (textB x).length = (numB x.length).length + x.length := by simp [textB]
  refine zX <| zB <| zB0 <| zB <| qR V <| qO V <| zI V zE0 sz9 (by decide) V V V (zM1 hs) ?_
  refine qO V <| zL V V ta9 V <| qA V V V <| qN <| zB <| qR V <| qM V V V <| qF V V V zX3 <| qO V <| zI1 (by simp [zL2]) V V V ta22 V ?_
  refine qX V V V V co194 ((zF4 id t n hn).nx h (by simp only [zE]; omega) _) ?_
  refine qN <| zB <| qR V <| qM V V V <| qF V V V fo27_1 <| qO V <| zI1 (by simp [zL2]) V V V ta22 V ?_
  refine qX V V V V co194 ((zF4 id t m hm).nx h (by simp only [zE]; omega) _) ?_
  refine qN ?_
  refine zW0 [5] [_, pr S id t (l ++ numB s.length ++ (s.take i).flatMap (fun x => numB n ++ (numB m ++ textB x)) ++ numB n ++ numB m ++ textB x) ++ [.cells (encS (.mk 6 ins)).cells, .cells (encV (.mk (n : Int) (m : Int) s c w)).cells]] mo (by decide) V V V V ?_
  refine zN V V (.cons (zY V V Vv) (.cons (zY V V Vv) (.nil))) <| zN V V (.cons (zY0 V V V Vv) (.cons (zY0 V V V Vv) (.nil))) <| dO V V V (zG V V fo232_0 Vv) <| zN V V (.cons (zY V V Vv) (.cons (zY V V Vv) (.nil))) <| zN V V (.cons (zT0 V V V co126 (codeText_spec x (by omega) _)) .nil) ?_
  refine zV0 V V V V (zT0 V V V co125 (write_nx h (textB x) (by simp only [zE]; omega) _)) ?_
  refine zQ0 <| qR V <| qO V <| zH1 V V V V <| qM V V V <| qN ?_
  refine ⟨i + 1, by omega, by omega, by rw [flatG_take hs]; simp only [zO, List.nil_append], (.keep V (.keep V (.keep V (.keep V (.nil))))), (.eq V (zH2 hlt hlen') (.nil))⟩
 ·
  have hge : i = s.length := by simp at h123; omega
  refine zV1 ?_
  exact zN2 (by simp) zU3 (by rw [zL2]; exact Nat.le_refl _) (cls_pr hcl h.idl h.tl) ⟨rfl, by rw [hge, List.take_length, zO]⟩
theorem clk_writes0 (ins : List Sch) (n m : Int) (s : List Bs) (w : List Val) (id t : Nat) : Writes 153 id t [.ref id 0, encS (.mk 7 ins), encV (.mk n m s [] w)] (rowB tkB []) := by
 intro l S h hl
 refine zR zA4 V zG4 (zA V) ?_
 refine zG1 fun _ hcl => ?_
 rw [List.append_nil] at hcl
 rw [rowB, zE] at hl
 refine zB <| qR V <| qB V V V V V <| qB V V V V V <| qN <| zB <| qR V <| qF V V V zB2 <| qO V <| zI1 (by simp [zL2]) V V V ta3 V ?_
 refine qN <| zB0 <| zB <| zB <| qR V <| qC V V V V V <| qA V V V <| qN <| zK V (V) <| qR V <| qC V V V V V <| qA V V V <| qN <| zK V (V) <| zB <| zB <| qR V <| qC V V V V V <| qA V V V <| qN <| zK V (V) <| qR V <| qC V V V V V ?_
 refine qA V V V <| qN <| zK V (V) <| zB <| qR V <| qC V V V V V <| qA V V V <| qN <| zK V (V) <| zB <| qR V <| qC V V V V V <| qA V V V <| qN <| zK V (V) <| zB <| qR V <| qC V V V V V <| qA V V V <| qN <| zU V (V) <| zB <| qR V ?_
 refine qA V V V <| qN <| zB <| zB <| qR V <| qF V V V zO2 <| qO V <| zI1 (by simp [zL2]) V V V ta24 V ?_
 refine qE V V zD0 V <| qC V V V V V <| qN <| zK V (V) <| zX <| qR V <| qM V V V <| qM V V V ?_
 refine qX V V V V co195 ((clock_sl [] (by simp) (by simp) id t h (by omega) _).sub (.cons (.refl _) (.cons (.nil 2) .nil))) ?_
 refine qN ?_
 exact zN2 (by simp) zU3 (by rw [zL2]; exact Nat.le_refl _) (cls_pr hcl h.idl h.tl) Vv
theorem clk_writes1 (ins : List Sch) (n m : Int) (s : List Bs) (x : List Tk) (hx : x.length ≤ 1000) (hx0 : ∀ t ∈ x, okW t) (w : List Val) (id t : Nat) : Writes 153 id t [.ref id 0, encS (.mk 7 ins), encV (.mk n m s [x] w)] (rowB tkB x) := by
 intro l S h hl
 refine zR zA4 V zG4 (zA V) ?_
 refine zG1 fun _ hcl => ?_
 rw [List.append_nil] at hcl
 rw [rowB, zE] at hl
 refine zB <| qR V <| qB V V V V V <| qB V V V V V <| qN <| zB <| qR V <| qF V V V zB2 <| qO V <| zI1 (by simp [zL2]) V V V ta3 V ?_
 refine qN <| zB0 <| zB <| zB <| qR V <| qC V V V V V <| qA V V V <| qN <| zK V (V) <| qR V <| qC V V V V V <| qA V V V <| qN <| zK V (V) <| zB <| zB <| qR V <| qC V V V V V <| qA V V V <| qN <| zK V (V) <| qR V <| qC V V V V V ?_
 refine qA V V V <| qN <| zK V (V) <| zB <| qR V <| qC V V V V V <| qA V V V <| qN <| zK V (V) <| zB <| qR V <| qC V V V V V <| qA V V V <| qN <| zK V (V) <| zB <| qR V <| qC V V V V V <| qA V V V <| qN <| zU V (V) <| zB <| qR V ?_
 refine qA V V V <| qN <| zB <| zB <| qR V <| qF V V V zO2 <| qO V <| zI1 (by simp [zL2]) V V V ta24 V ?_
 refine qE V V zD0 V <| qC V V V V V <| qN <| zU V (V) <| qR V <| qF V V V zO2 <| qO V <| zI1 (by simp [zL2]) V V V ta24 V ?_
 refine qO V <| zI V zD0 sz202 (by decide) V V V (show _ = some (encC x) from V) ?_
 refine qO V <| zL V V ta202 V <| qA V V V <| qN <| qR V <| qM V V V <| qM V V V ?_
 refine qX V V V V co195 (clock_sl x hx hx0 id t h (by omega) _) ?_
 refine qN ?_
 exact zN2 (by simp) zU3 (by rw [zL2]; exact Nat.le_refl _) (cls_pr hcl h.idl h.tl) Vv
theorem sibs_writes (k1 : Int) (i1 : List Sch) (E : Val → Bs) (n m : Int) (s : List Bs) (ps : List (List Tk × Val)) (id t : Nat) (hpl : ps.length ≤ 1000) (hps : ∀ p ∈ ps, p.1.length ≤ 1000 ∧ ∀ t ∈ p.1, okW t) (hE : ∀ p ∈ ps, Writes 153 id t [.ref id 0, encS (.mk k1 i1), encV p.2] (E p.2)) : Writes 153 id t [.ref id 0, encS (.mk 8 [.mk k1 i1]), encV (.mk n m s (ps.map Prod.fst) (ps.map Prod.snd))] (rowB (sibB E) ps) := by
 intro l S h hl
 refine zR zA4 V zG4 (zA V) ?_
 refine zG1 fun _ hcl => ?_
 rw [List.append_nil] at hcl
 have hlen' : ps.length ≤ maxLen := by simp only [maxLen]; omega
 have hnb := zN3 9 ps.length (by omega)
 rw [rowB, zE] at hl
 refine zB <| qR V <| qB V V V V V <| qB V V V V V <| qN <| zB <| qR V <| qF V V V zB2 <| qO V <| zI1 (by simp [zL2]) V V V ta3 V ?_
 refine qN <| zB0 <| zB <| zB <| qR V <| qC V V V V V <| qA V V V <| qN <| zK V (V) <| qR V <| qC V V V V V <| qA V V V <| qN <| zK V (V) <| zB <| zB <| qR V <| qC V V V V V <| qA V V V <| qN <| zK V (V) <| qR V <| qC V V V V V ?_
 refine qA V V V <| qN <| zK V (V) <| zB <| qR V <| qC V V V V V <| qA V V V <| qN <| zK V (V) <| zB <| qR V <| qC V V V V V <| qA V V V <| qN <| zK V (V) <| zB <| qR V <| qC V V V V V <| qA V V V <| qN <| zK V (V) <| zB <| qR V ?_
 refine qM V V V <| qF V V V zO2 <| qO V <| zI1 (by simp [zL2]) V V V ta24 V ?_
 refine qE V V zD0 V <| qO V <| zL3 V zX2 zD3 V (zK5 (by rw [zF, zF]; omega)) ?_
 rw [zF, zF]
 refine qX V V V V co194 ((zF4 id t ps.length (by omega)).sl h (by omega) _) ?_
 refine qN <| zB <| qR V <| qF V V V zO2 <| qO V <| zI1 (by simp [zL2]) V V V ta24 V ?_
 refine qE V V zD0 V <| qM V V V <| qN <| zB0 ?_
 show mwp _ _ _ _ _ _ _ (([] : MS) ++ (pr S id t (l ++ numB ps.length) ++ [.cells (encS (.mk 8 [.mk k1 i1])).cells, .cells (encV (.mk n m s (ps.map Prod.fst) (ps.map Prod.snd))).cells]))
 refine zK2 (α := Nat) [(0, _), (4, _), (5, _), (22, _), (23, _)] (fun i => [(24, .int .i64 (i : Int))]) (fun i => (pr S id t (l ++ numB ps.length ++ (ps.take i).flatMap (sibB E)) ++ [.cells (encS (.mk 8 [.mk k1 i1])).cells, .cells (encV (.mk n m s (ps.map Prod.fst) (ps.map Prod.snd))).cells])) (fun i => i ≤ ps.length) (fun i => ps.length - i) (0) (.keep V (.keep V (.keep V (.keep V (.keep V (.nil)))))) (.keep V (.nil)) (by omega) (by simp) ?_
 rintro i hi
 show mwp _ _ _ _ _ _ _ (pr S id t (l ++ numB ps.length ++ (ps.take i).flatMap (sibB E)) ++ [.cells (encS (.mk 8 [.mk k1 i1])).cells, .cells (encV (.mk n m s (ps.map Prod.fst) (ps.map Prod.snd))).cells])
 have hw := h.pr (l ++ numB ps.length ++ (ps.take i).flatMap (sibB E))
 refine zB <| qR V <| qC V V V V V <| qN <| zB ?_
 refine zM V (fun h25 => ?_) (fun h25 => ?_)
 ·
  rw [zF, zF] at h25
  have hlt : i < ps.length := by simpa using h25
  obtain ⟨⟨x, ⟨n9, m9, s9, c9, w9⟩⟩, hs⟩ : ∃ q_, ps[i]? = some q_ := ⟨_, zC hlt⟩
  have hpm := zW hs
  have hx := hps _ hpm
  dsimp only at hx
  have hle := flatG_le (G := sibB E) hs
  rw [sibB, zE] at hle
  dsimp only at hle
  have hgx : ((ps.map Prod.fst).map encC)[i]? = some (encC x) := by rw [zI0, zI0, hs]; rfl
  have hgw : (encVs (ps.map Prod.snd))[i]? = some (encV (.mk n9 m9 s9 c9 w9)) := by rw [encVs_eq, zI0, zI0, hs]; rfl
  refine zX <| zB <| zB0 <| zB <| qR V <| qM V V V <| qO V <| zI V zD0 sz202 (by decide) V V V hgx ?_
  refine qO V <| zL V V ta202 V <| qA V V V <| qA V V V <| qN <| zB <| qR V <| qM V V V <| qM V V V ?_
  refine qX V V V V co195 (clock_nx x hx.1 hx.2 id t h (by simp only [zE]; omega) _) ?_
  refine qN ?_
  refine zW0 [10] [_, pr S id t (l ++ numB ps.length ++ (ps.take i).flatMap (sibB E) ++ rowB tkB x ++ E (.mk n9 m9 s9 c9 w9)) ++ [.cells (encS (.mk 8 [.mk k1 i1])).cells, .cells (encV (.mk n m s (ps.map Prod.fst) (ps.map Prod.snd))).cells]] mo (by decide) V V V V ?_
  refine dO V V V (zY V V Vv) <| zN V V (.cons (zG V V zG3 Vv) (.cons (zG V V zG3 Vv) (.nil))) <| zN V V (.cons (zI1 (by simp [zL2]) V V V ta51 V Vv) (.cons (zI1 (by simp [zL2]) V V V ta51 V Vv) (.nil))) ?_
  refine zN V V (.cons (zI V zO0 sz53 (by decide) V V V (show _ = some (encS (.mk k1 i1)) from V) Vv) (.cons (zI V zO0 sz53 (by decide) V V V (show _ = some (encS (.mk k1 i1)) from V) Vv) (.nil))) ?_
  refine dO V V V (zL V V ta53 V Vv) <| zN V V (.cons (zG V V zG2 Vv) (.cons (zG V V zG2 Vv) (.nil))) <| zN V V (.cons (zI1 (by simp [zL2]) V V V ta25 V Vv) (.cons (zI1 (by simp [zL2]) V V V ta25 V Vv) (.nil))) ?_
  refine zN V V (.cons (zY V V Vv) (.cons (zY V V Vv) (.nil))) <| zN V V (.cons (zI V zG0 sz27 (by decide) V V V hgw Vv) (.cons (zI V zG0 sz27 (by decide) V V V hgw Vv) (.nil))) ?_
  refine dO V V V (zL V V ta27 V Vv) <| zV0 V V V V (zT0 V V V co153 ((hE _ hpm).nx h (by simp only [zE]; omega) _)) ?_
  refine zQ0 <| qR V <| qO V <| zH1 V V V V <| qM V V V <| qN ?_
  refine ⟨i + 1, by omega, by omega, by rw [flatG_take hs]; simp only [sibB, zO, List.nil_append], (.keep V (.keep V (.keep V (.keep V (.keep V (.nil)))))), (.eq V (zH2 hlt hlen') (.nil))⟩
 ·
  rw [zF, zF] at h25
  have hge : i = ps.length := by simp at h25; omega
  refine zV1 ?_
  exact zN2 (by simp) zU3 (by rw [zL2]; exact Nat.le_refl _) (cls_pr hcl h.idl h.tl) ⟨rfl, by rw [hge, List.take_length, rowB, zO]⟩
theorem clk_okW {c : List Tk} (h : isClockF c = true) (ho : ∀ t ∈ c, okTk t) : c.length ≤ 1000 ∧ ∀ t ∈ c, okW t := by
 obtain ⟨h1, h2⟩ := clk_who h
 refine ⟨by omega, fun t ht => ?_⟩
 have := h2 t ht
 have := ho t ht
 unfold okTk at this
 exact ⟨by omega, by omega⟩
theorem value_writes : ∀ (d : Nat) (s : Sch), isF d s = true → ∀ v, isOk s v → ∀ id t, Writes 153 id t [.ref id 0, encS s, encV v] (valB s v)
 | 0, s, h, v, _, _, _ => by simp [isF] at h
 | d + 1, .mk k ins, h, .mk n m s c w, hv, id, t => by
  simp only [isF, Bool.and_eq_true, beq_iff_eq, List.all_eq_true] at h
  have ho := hv.2
  have hov := ok_vals hv.2
  rw [okV] at ho
  rcases kinds h.1 with ⟨hk, rfl⟩ | ⟨rfl, rfl⟩ | ⟨rfl, rfl⟩ | ⟨rfl, rfl⟩ | ⟨⟨k1, i1⟩, rfl, rfl⟩ | ⟨⟨k1, i1⟩, rfl, rfl⟩ | ⟨⟨k1, i1⟩, ⟨k2, i2⟩, rfl, rfl⟩
  ·obtain ⟨rfl, rfl, rfl, rfl⟩ := bare_nums hk hv.1
   rw [valB, kindB, if_pos (by omega)]
   exact flat_writes k [] (by omega) n 0 [] [] [] ho.1 (by simp) (by simp) id t
  ·obtain ⟨rfl, rfl, rfl, rfl, h1, h2⟩ := bare_set hv.1
   rw [valB, kindB, if_pos (by omega)]
   exact flat_writes 3 [] (by omega) 0 0 s [] [] ho.1 (by omega) (fun x hx => by have := h2 x hx; omega) id t
  ·rw [valB, kindB, if_neg (by omega), if_neg (by omega), if_neg (by omega), if_pos rfl]
   obtain ⟨q, rfl⟩ : ∃ q : Nat, n = (q : Int) := ⟨n.toNat, by omega⟩
   obtain ⟨r, rfl⟩ : ∃ q : Nat, m = (q : Int) := ⟨m.toNat, by omega⟩
   obtain ⟨hc, hw, hs⟩ := bare_last hv.1
   have hsl : s.length ≤ 1000 ∧ ∀ x ∈ s, x.length ≤ 1000 := by
    rcases hs with ⟨rfl, _, _⟩ | ⟨t, rfl, ht⟩
    ·simp
    ·simp; omega
   exact last_writes [] q r (by omega) (by omega) s c w hsl.1 hsl.2 id t
  ·rw [valB, kindB, if_neg (by omega), if_neg (by omega), if_neg (by omega), if_neg (by omega), if_pos rfl]
   obtain ⟨rfl, rfl, rfl, rfl, rfl | ⟨x, rfl, hx, hc⟩⟩ := bare_one hv.1
   ·exact clk_writes0 [] 0 0 [] [] id t
   ·obtain ⟨h1, h2⟩ := clk_okW hc (ho.2.2.1 x (by simp))
    exact clk_writes1 [] 0 0 [] x h1 h2 [] id t
  ·obtain ⟨rfl, rfl, rfl, hl, hs, hw⟩ := bare_map hv.1
   obtain ⟨z1, z2⟩ := zip_fst hl
   have hM := map_writes k1 i1 (valB (.mk k1 i1)) 0 0 [] (s.zip w) id t (by rw [zip_len hl]; omega) (fun p hp => by
    have := hs.2 p.1 (by rw [← z1]; exact List.mem_map.2 ⟨p, hp, rfl⟩)
    omega) (fun p hp => by
    have hm : p.2 ∈ w := by rw [← z2]; exact List.mem_map.2 ⟨p, hp, rfl⟩
    exact value_writes d _ (h.2 _ (by simp)) p.2 ⟨hw _ hm, hov _ hm⟩ id t)
   rw [show (s.zip w).map Prod.fst = s from z1, show (s.zip w).map Prod.snd = w from z2] at hM
   rw [valB, kindB, if_neg (by omega), if_pos rfl, valBs]
   exact hM
  ·obtain ⟨rfl, rfl, rfl, hl, hs, hw⟩ := bare_sibs hv.1
   obtain ⟨z1, z2⟩ := zip_fst hl
   have hM := sibs_writes k1 i1 (valB (.mk k1 i1)) 0 0 [] (c.zip w) id t (by rw [zip_len hl]; omega) (fun p hp => by
    have hm : p.1 ∈ c := by rw [← z1]; exact List.mem_map.2 ⟨p, hp, rfl⟩
    exact clk_okW (hs.2 _ hm) (ho.2.2.1 _ hm)) (fun p hp => by
    have hm : p.2 ∈ w := by rw [← z2]; exact List.mem_map.2 ⟨p, hp, rfl⟩
    exact value_writes d _ (h.2 _ (by simp)) p.2 ⟨hw _ hm, hov _ hm⟩ id t)
   rw [show (c.zip w).map Prod.fst = c from z1, show (c.zip w).map Prod.snd = w from z2] at hM
   rw [valB, kindB, if_neg (by omega), if_neg (by omega), if_neg (by omega), if_neg (by omega), if_neg (by omega), valBs]
   exact hM
  ·obtain ⟨rfl, rfl, rfl, rfl, x, y, rfl, q1, q2⟩ := bare_pair hv.1
   rw [valB, kindB, if_neg (by omega), if_neg (by omega), if_pos rfl, valBs, valBs]
   exact pair_writes k1 k2 i1 i2 _ _ 0 0 [] [] x y id t (value_writes d _ (h.2 _ (by simp)) x ⟨q1, hov x (by simp)⟩ id t) (value_writes d _ (h.2 _ (by simp)) y ⟨q2, hov y (by simp)⟩ id t)
theorem bytes_of (sc : Sch) (x : Val) (hs : isF 16 sc = true) (hx : isOk sc x) (hsz : szM (encV x) ≤ 1500000) (S : MS) : MCalls Tryz.prog 90 [encS sc, encV x] S fun v σ' => v = .str (bs (valB sc x)) ∧ σ' = S := by
 obtain ⟨h1, h2⟩ := valB_len 16 sc hs x hx
 exact bytes_spec sc x (valB sc x) hx.2 (by rw [hs, hx.1]; rfl) (fun e => by rw [e] at h1; simp at h1) (by omega) (fun id t => value_writes 16 sc hs x hx id t) S
end Go.Proofs.YtciimaabeabkdaaGreatDoor
namespace Go.Proofs.YtciimaabeabkdaaGreatDoor
open Go Go.MV
def encEr (e : Int) : MV := if e = 0 then .iface0 else encErr e
noncomputable def joinedF (l : List Tbl) (w : Option Val) (n : Nat) (key : Bs) (v : Val) : Val × Bool × Int := match findP l key with
 | none => (v, false, 10)
 | some t => if (isF 16 t.2.2 && isVF t.2.2 v) = false then (v, false, 14)
  else if w = none ∧ noneF t.2.2 v = false ∧ 24 ≤ n then (v, false, 15)
  else match joinVF t.2.2 (getF l w key) v with
   | .error e => (v, false, e)
   | .ok j => if 4000 < (valB t.2.2 j).length then (v, false, 13) else (j, !decide (j = getF l w key), 0)
theorem sub_zV : Sub zV (encV noV) := .agg (.cons (.refl _) (.cons (.refl _) (.cons (.nil 1) (.cons (.nil 1) (.cons (.nil 5) .nil)))))
theorem look_sub (w : Option Val) : ∃ n m s c v, Sub ((w.map encV).getD zV) (encV (.mk n m s c v)) := by
 rcases w with _ | ⟨n, m, s, c, v⟩
 ·exact ⟨_, _, _, _, _, sub_zV⟩
 ·exact ⟨n, m, s, c, v, .refl _⟩
theorem val_form (v : Val) : ∃ n m s c w, v = .mk n m s c w := by
 cases v
 exact ⟨_, _, _, _, _, rfl⟩
theorem _root_.zY4 : type_of% @val_form := @val_form
theorem joined_none {l : List Tbl} {w : Option Val} {n : Nat} {key : Bs} {v : Val} (hf : findP l key = none) : joinedF l w n key v = (v, false, 10) := by
 unfold joinedF
 rw [hf]
theorem joined_type {l : List Tbl} {w : Option Val} {n : Nat} {key : Bs} {v : Val} {t : Tbl} (hf : findP l key = some t) (h : (isF 16 t.2.2 && isVF t.2.2 v) = false) : joinedF l w n key v = (v, false, 14) := by
 unfold joinedF
 rw [hf]
 simp only []
 rw [if_pos h]
theorem joined_full {l : List Tbl} {w : Option Val} {n : Nat} {key : Bs} {v : Val} {t : Tbl} (hf : findP l key = some t) (h : (isF 16 t.2.2 && isVF t.2.2 v) = true) (h2 : w = none ∧ noneF t.2.2 v = false ∧ 24 ≤ n) : joinedF l w n key v = (v, false, 15) := by
 unfold joinedF
 rw [hf]
 simp only []
 rw [if_neg (by rw [h]; simp), if_pos h2]
theorem joined_err {l : List Tbl} {w : Option Val} {n : Nat} {key : Bs} {v : Val} {t : Tbl} {e : Int} (hf : findP l key = some t) (h : (isF 16 t.2.2 && isVF t.2.2 v) = true) (h2 : ¬ (w = none ∧ noneF t.2.2 v = false ∧ 24 ≤ n)) (hj : joinVF t.2.2 (getF l w key) v = .error e) : joinedF l w n key v = (v, false, e) := by
 unfold joinedF
 rw [hf]
 simp only []
 rw [if_neg (by rw [h]; simp), if_neg h2, hj]
theorem joined_ok {l : List Tbl} {w : Option Val} {n : Nat} {key : Bs} {v j : Val} {t : Tbl} (hf : findP l key = some t) (h : (isF 16 t.2.2 && isVF t.2.2 v) = true) (h2 : ¬ (w = none ∧ noneF t.2.2 v = false ∧ 24 ≤ n)) (hj : joinVF t.2.2 (getF l w key) v = .ok j) : joinedF l w n key v = if 4000 < (valB t.2.2 j).length then (v, false, 13) else (j, !decide (j = getF l w key), 0) := by
 unfold joinedF
 rw [hf]
 simp only []
 rw [if_neg (by rw [h]; simp), if_neg h2, hj]
theorem cl_er {n : Nat} (e : Int) : Cl n (encEr e) := by
 unfold encEr
 split
 ·exact .iface0
 ·exact .iface _ _ (.int _ _)
theorem _root_.zW2 : type_of% @Tryz.results85 := @Tryz.results85
theorem joined_spec (S : MS) (tid mid clk : Nat) (es : List ME) (l : List Tbl) (keys : List Bs) (key : Bs) (w : Option Val) (v : Val) (hS : S[tid]? = some (tbO l keys mid)) (hm : S[mid]? = some (.mp clk es)) (hl : mpLook (bs key) es = w.map encV) (ov : okV v) (ow : okV (getF l w key)) (hb : ∀ t j, findP l key = some t → joinVF t.2.2 (getF l w key) v = .ok j → isOk t.2.2 j ∧ szM (encV j) ≤ 1500000 ∧ leqVF t.2.2 j (getF l w key) = .ok (decide (j = getF l w key))) : MCalls Tryz.prog 85 [.ref tid 0, .str (bs key), encV v] S fun v' σ' => v' = .tup [encV (joinedF l w keys.length key v).1, .bool (joinedF l w keys.length key v).2.1, encEr (joinedF l w keys.length key v).2.2] ∧ σ' = S := by
 refine zR Tryz.func85 V Tryz.ntmps85 (zA V) ?_
 obtain ⟨n1, m1, s1, c1, w1, hv⟩ := zY4 v
 obtain ⟨gn, gm, gs, gc, gv, hG⟩ := zY4 (getF l w key)
 obtain ⟨xn, xm, xs, xc, xv, hsx⟩ := look_sub w
 subst hv
 rw [hG] at ow
 have hfs := zU5 l key
 have hget : ∀ S1 : MS, _ → _ → _ := fun S1 h1 h2 => tblGet_spec S1 tid mid clk es l (.lst none 1 (keys.map encX)) key w h1 h2 hl
 rw [hG] at hget
 refine zB <| qR V <| qB V V V V V <| qO V <| zM0 V zm27 V V <| qA V V V <| qA V V V <| qN <| zB ?_
 rcases hf : findP l key with _ | ⟨fn, fl, ⟨fk, fi⟩⟩ <;> rw [hf] at hfs
 ·
  refine qR V <| qM V V V <| qO V <| zY0 V V V <| qF V V V fo150_0 <| qO V <| zA2 V V hS ta39 V <| qM V V V ?_
  refine qX V V V V co20 (hfs _) ?_
  refine qM V V V <| qO V <| zS V V V <| qO V <| zS V V V <| qO V <| zM0 V zm55 V V <| qO V <| zZ V V V V sz55 V V (zA V) V <| qA V V V <| qN <| zB <| zB <| qR V <| qM V V V <| qO V <| zF1 V V <| qN <| zU V (V) <| zB <| qR V <| qL V V V V ta27 V <| qO V <| zK1 V V zD1 (by simp) ?_
  refine qO V <| zZ V V V V sz27 V V (zA V) V <| qA V V V <| qA V V V <| qN <| zH ?_
  exact zB5 (.inr V) zW2 V V ta27 V (.refl _) (zO1 _ (.mk n1 m1 s1 c1 w1)) V (.refl _) (.bool _) V (.refl _) (cl_er 10) ⟨by rw [joined_none hf]; rfl, rfl⟩
 ·
  refine qR V <| qM V V V <| qO V <| zY0 V V V <| qF V V V fo150_0 <| qO V <| zA2 V V hS ta39 V <| qM V V V ?_
  refine qX V V V V co20 (hfs _) ?_
  refine qM V V V <| qO V <| zS V V V <| qO V <| zS V V V <| qO V <| zM0 V zm55 V V <| qO V <| zZ V V V V sz55 V V (zA V) V <| qA V V V <| qN <| zB <| zB <| qR V <| qM V V V <| qO V <| zF1 V V <| qN <| zK V (V) <| zX <| zB <| zB <| qR V <| qF V V V zT4 <| qL V V V V ta53 V ?_
  refine qL V V V V ta27 V ?_
  refine qX V V V V co116 (valIs_spec (.mk fk fi) (.mk n1 m1 s1 c1 w1) ov _) ?_
  refine qO V <| zF1 V V <| qN ?_
  refine zM V (fun h34 => ?_) (fun h34 => ?_)
  ·
   have hty : (isF 16 (.mk fk fi) && isVF (.mk fk fi) (.mk n1 m1 s1 c1 w1)) = false := by rwa [Bool.not_eq_true'] at h34
   refine zB <| qR V <| qL V V V V ta27 V <| qO V <| zK1 V V zD1 (by simp) ?_
   refine qO V <| zZ V V V V sz27 V V (zA V) V <| qA V V V <| qA V V V <| qN <| zH ?_
   exact zB5 (.inr V) zW2 V V ta27 V (.refl _) (zO1 _ (.mk n1 m1 s1 c1 w1)) V (.refl _) (.bool _) V (.refl _) (cl_er 14) ⟨by rw [joined_type hf hty]; rfl, rfl⟩
  ·
   have hty : (isF 16 (.mk fk fi) && isVF (.mk fk fi) (.mk n1 m1 s1 c1 w1)) = true := by rwa [Bool.not_eq_false'] at h34
   refine zX <| zB <| qR V <| qM V V V <| qM V V V ?_
   refine qX V V V V co27 (hget _ (zQ hS) (zQ hm)) ?_
   refine qO V <| zM0 V zm27 V V <| qO V <| zZ V V V V sz27 V V (zA V) V <| qN <| zB <| qR V <| qM V V V <| qO V <| zY0 V V V <| qF V V V fo150_1 <| qF V V V fo148_1 <| qO V <| zA2 V V hS ta146 V <| qM V V V <| qO V <| zH3 (y := .tup [encV (.mk xn xm xs xc xv), .bool w.isSome]) (zO5 (t := 146) (e := 27) (z := zV) (m := (w.map encV).getD zV) (c := w.isSome) V (by kernel_rfl) (by kernel_rfl) V V (zQ hm) (by rw [hl]) (by rw [hl]; cases w <;> rfl) Vv) (.tup (.cons hsx (.cons (.refl _) .nil))) ?_
   refine qM V V V <| qO V <| zS V V V <| qO V <| zS V V V <| qO V <| zM0 V zm27 V V <| qO V <| zZ V V V V sz27 V V (zA V) V <| qA V V V <| qN ?_
   refine mwp_joinX (E := [(5, .ref (S.length + 0) 0), (6, .ref (S.length + 1) 0), (9, .ref (S.length + 2) 0), (11, .ref (S.length + 3) 0)]) (S ++ [.cells (encV (.mk n1 m1 s1 c1 w1)).cells, .cells [.int .u64 0, .int .u64 0, .lst0, .lst0, .lst0], .cells (encTb (fn, fl, .mk fk fi)).cells, .cells (encV (.mk gn gm gs gc gv)).cells, .cells (encV (.mk xn xm xs xc xv)).cells]) (¬ (w = none ∧ noneF (.mk fk fi) (.mk n1 m1 s1 c1 w1) = false ∧ 24 ≤ keys.length)) ?_ ?_
   ·
    refine zB <| qR V <| qM V V V <| qO V <| zF1 V V <| qM V V V ?_
    refine zH0 (fun h52 => ?_) (fun h52 => ?_)
    ·
     refine qF V V V zT4 <| qL V V V V ta53 V <| qL V V V V ta27 V ?_
     refine qX V V V V co119 (None_spec (.mk fk fi) (.mk n1 m1 s1 c1 w1) _) ?_
     refine qO V <| zF1 V V <| qP V V V V <| qM V V V ?_
     refine zH0 (fun h59 => ?_) (fun h59 => ?_)
     ·
      refine qM V V V <| qO V <| zY0 V V V <| qF V V V fo150_1 <| qF V V V fo148_0 <| qO V <| zA2 V V hS ta23 V <| qE V V zE0 V <| qC V V V V V <| qP V V V V <| qN ?_
      refine zM V (fun h67 => ?_) (fun h67 => ?_)
      ·
       have hk24 : 24 ≤ keys.length := by simp at h67 <;> omega
       refine zB <| qR V <| qL V V V V ta27 V <| qO V <| zK1 V V zD1 (by simp) ?_
       refine qO V <| zZ V V V V sz27 V V (zA V) V <| qA V V V <| qA V V V <| qN <| zH ?_
       refine .inr ⟨nofun, ?_⟩
       exact zB5 (.inr V) zW2 V V ta27 V (.refl _) (zO1 _ (.mk n1 m1 s1 c1 w1)) V (.refl _) (.bool _) V (.refl _) (cl_er 15) ⟨by rw [joined_full hf hty ⟨by simpa using h52, by simpa using h59, hk24⟩]; rfl, rfl⟩
      ·
       refine zX ?_
       exact .inl ⟨rfl, rfl, .keep rfl (.keep rfl (.keep rfl (.keep rfl .nil))), by rintro ⟨q1, q2, q3⟩; simp_all <;> omega⟩
     ·
      refine qT V V V V <| qS V <| qS V <| qS V <| qP V V V V <| qN <| zK V (V) <| zX ?_
      exact .inl ⟨rfl, rfl, .keep rfl (.keep rfl (.keep rfl (.keep rfl .nil))), by rintro ⟨q1, q2, q3⟩; simp_all <;> omega⟩
    ·
     refine qT V V V V <| qS V <| qP V V V V <| qM V V V <| qT V V V V <| qS V <| qS V <| qS V <| qP V V V V <| qN <| zK V (V) <| zX ?_
     exact .inl ⟨rfl, rfl, .keep rfl (.keep rfl (.keep rfl (.keep rfl .nil))), by rintro ⟨q1, q2, q3⟩; simp_all <;> omega⟩
   ·
    intro hroom
    refine zB ?_
    have hof := join_spec (.mk fk fi) (.mk gn gm gs gc gv) (.mk n1 m1 s1 c1 w1) ow ov
    rcases joinR (.mk fk fi) (.mk gn gm gs gc gv) (.mk n1 m1 s1 c1 w1) with ⟨n3, m3, s3, c3, w3, hj⟩ | hj | hj <;> rw [hj] at hof
    ·
     obtain ⟨hok3, hsz3, hleq3⟩ := hb _ _ hf (by rw [hG]; exact hj)
     rw [hG] at hleq3
     have hlq := leq_spec (.mk fk fi) (.mk n3 m3 s3 c3 w3) (.mk gn gm gs gc gv) hok3.2 ow
     rw [hleq3] at hlq
     refine qR V <| qF V V V zT4 <| qL V V V V ta53 V <| qL V V V V ta27 V <| qL V V V V ta27 V ?_
     refine qX V V V V co145 (hof _) ?_
     refine qM V V V <| qO V <| zS V V V <| qO V <| zS V V V <| qO V <| zM0 V zm27 V V <| qO V <| zZ V V V V sz27 V V (zA V) V <| qA V V V <| qN <| zB <| zB <| qR V <| qM V V V <| qO V <| zV3 V zA0 V V (.inl Vv) <| qM V V V <| qF V V V zT4 <| qL V V V V ta53 V <| qL V V V V ta27 V ?_
     refine qX V V V V co90 (bytes_of (.mk fk fi) (.mk n3 m3 s3 c3 w3) (by rw [Bool.and_eq_true] at hty; exact hty.1) hok3 hsz3 _) ?_
     refine qO V <| zO3 V zL0 V <| qC V V V V V <| qP V V V V <| qN ?_
     refine zM V (fun h87 => ?_) (fun h87 => ?_)
     ·
      have hlen : 4000 < (valB (.mk fk fi) (.mk n3 m3 s3 c3 w3)).length := by simp at h87; omega
      refine qR V <| qO V <| zK1 V V zD1 (by simp) ?_
      refine qA V V V <| qN <| zB <| zB <| qR V <| qM V V V <| qO V <| zS2 V zA0 V V (.inr Vv) <| qN <| zU V (V) <| zB <| qR V <| qL V V V V ta27 V <| qM V V V <| qO V <| zZ V V V V sz27 V V (zA V) V <| qA V V V <| qA V V V <| qN <| zH ?_
      exact zB5 (.inr V) zW2 V V ta27 V (.refl _) (zO1 _ (.mk n1 m1 s1 c1 w1)) V (.refl _) (.bool _) V (.refl _) (cl_er 13) ⟨by rw [joined_ok hf hty hroom (by rw [hG]; exact hj), if_pos hlen]; rfl, rfl⟩
     ·
      have hlen : ¬ 4000 < (valB (.mk fk fi) (.mk n3 m3 s3 c3 w3)).length := by simp at h87; omega
      refine zX <| zB <| zB <| qR V <| qM V V V <| qO V <| zV3 V zA0 V V (.inr Vv) <| qN <| zK V (V) <| zX <| zB <| qR V <| qF V V V zT4 <| qL V V V V ta53 V <| qL V V V V ta27 V <| qL V V V V ta27 V ?_
      refine qX V V V V co146 (hlq _) ?_
      refine qM V V V <| qO V <| zS V V V <| qO V <| zS V V V <| qA V V V <| qA V V V <| qN <| zB <| qR V <| qL V V V V ta27 V <| qM V V V <| qO V <| zF1 V V <| qM V V V <| qO V <| zZ V V V V sz27 V V (zA V) V <| qA V V V <| qA V V V <| qN <| zH ?_
      exact zB5 (.inr V) zW2 V V ta27 V (.refl _) (zO1 _ (.mk n3 m3 s3 c3 w3)) V (.refl _) (.bool _) V (.refl _) (cl_er 0) ⟨by rw [joined_ok hf hty hroom (by rw [hG]; exact hj), if_neg hlen, hG]; rfl, rfl⟩
    ·
     refine qR V <| qF V V V zT4 <| qL V V V V ta53 V <| qL V V V V ta27 V <| qL V V V V ta27 V ?_
     refine qX V V V V co145 (hof _) ?_
     refine qM V V V <| qO V <| zS V V V <| qO V <| zS V V V <| qO V <| zM0 V zm27 V V <| qO V <| zZ V V V V sz27 V V (zA V) V <| qA V V V <| qN <| zB <| zB <| qR V <| qM V V V <| qO V <| zS2 V zA0 V V (.inl Vv) <| qM V V V <| qT V V V V <| qS V <| qS V <| qP V V V V ?_
     refine qN <| zK V (V) <| zX <| zB <| zB <| qR V <| qM V V V <| qO V <| zS2 V zA0 V V (.inr Vv) <| qN <| zU V (V) <| zB <| qR V <| qL V V V V ta27 V <| qM V V V <| qO V <| zZ V V V V sz27 V V (zA V) V <| qA V V V <| qA V V V <| qN <| zH ?_
     exact zB5 (.inr V) zW2 V V ta27 V (.refl _) (zO1 _ (.mk n1 m1 s1 c1 w1)) V (.refl _) (.bool _) V (.refl _) (cl_er 13) ⟨by rw [joined_err hf hty hroom (by rw [hG]; exact hj)]; rfl, rfl⟩
    ·
     refine qR V <| qF V V V zT4 <| qL V V V V ta53 V <| qL V V V V ta27 V <| qL V V V V ta27 V ?_
     refine qX V V V V co145 (hof _) ?_
     refine qM V V V <| qO V <| zS V V V <| qO V <| zS V V V <| qO V <| zM0 V zm27 V V <| qO V <| zZ V V V V sz27 V V (zA V) V <| qA V V V <| qN <| zB <| zB <| qR V <| qM V V V <| qO V <| zS2 V zA0 V V (.inl Vv) <| qM V V V <| qT V V V V <| qS V <| qS V <| qP V V V V ?_
     refine qN <| zK V (V) <| zX <| zB <| zB <| qR V <| qM V V V <| qO V <| zS2 V zA0 V V (.inr Vv) <| qN <| zU V (V) <| zB <| qR V <| qL V V V V ta27 V <| qM V V V <| qO V <| zZ V V V V sz27 V V (zA V) V <| qA V V V <| qA V V V <| qN <| zH ?_
     exact zB5 (.inr V) zW2 V V ta27 V (.refl _) (zO1 _ (.mk n1 m1 s1 c1 w1)) V (.refl _) (.bool _) V (.refl _) (cl_er 14) ⟨by rw [joined_err hf hty hroom (by rw [hG]; exact hj)]; rfl, rfl⟩
theorem joined0_spec (S : MS) (tid mid clk : Nat) (es : List ME) (l : List Tbl) (key : Bs) (w : Option Val) (v : Val) (hS : S[tid]? = some (tbO0 l mid)) (hm : S[mid]? = some (.mp clk es)) (hl : mpLook (bs key) es = w.map encV) (ov : okV v) (ow : okV (getF l w key)) (hb : ∀ t j, findP l key = some t → joinVF t.2.2 (getF l w key) v = .ok j → isOk t.2.2 j ∧ szM (encV j) ≤ 1500000 ∧ leqVF t.2.2 j (getF l w key) = .ok (decide (j = getF l w key))) : MCalls Tryz.prog 85 [.ref tid 0, .str (bs key), encV v] S fun v' σ' => v' = .tup [encV (joinedF l w 0 key v).1, .bool (joinedF l w 0 key v).2.1, encEr (joinedF l w 0 key v).2.2] ∧ σ' = S := by
 refine zR Tryz.func85 V Tryz.ntmps85 (zA V) ?_
 obtain ⟨n1, m1, s1, c1, w1, hv⟩ := zY4 v
 obtain ⟨gn, gm, gs, gc, gv, hG⟩ := zY4 (getF l w key)
 obtain ⟨xn, xm, xs, xc, xv, hsx⟩ := look_sub w
 subst hv
 rw [hG] at ow
 have hfs := zU5 l key
 have hget : ∀ S1 : MS, _ → _ → _ := fun S1 h1 h2 => tblGet_spec S1 tid mid clk es l .lst0 key w h1 h2 hl
 rw [hG] at hget
 refine zB <| qR V <| qB V V V V V <| qO V <| zM0 V zm27 V V <| qA V V V <| qA V V V <| qN <| zB ?_
 rcases hf : findP l key with _ | ⟨fn, fl, ⟨fk, fi⟩⟩ <;> rw [hf] at hfs
 ·
  refine qR V <| qM V V V <| qO V <| zY0 V V V <| qF V V V fo150_0 <| qO V <| zA2 V V hS ta39 V <| qM V V V ?_
  refine qX V V V V co20 (hfs _) ?_
  refine qM V V V <| qO V <| zS V V V <| qO V <| zS V V V <| qO V <| zM0 V zm55 V V <| qO V <| zZ V V V V sz55 V V (zA V) V <| qA V V V <| qN <| zB <| zB <| qR V <| qM V V V <| qO V <| zF1 V V <| qN <| zU V (V) <| zB <| qR V <| qL V V V V ta27 V <| qO V <| zK1 V V zD1 (by simp) ?_
  refine qO V <| zZ V V V V sz27 V V (zA V) V <| qA V V V <| qA V V V <| qN <| zH ?_
  exact zB5 (.inr V) zW2 V V ta27 V (.refl _) (zO1 _ (.mk n1 m1 s1 c1 w1)) V (.refl _) (.bool _) V (.refl _) (cl_er 10) ⟨by rw [joined_none hf]; rfl, rfl⟩
 ·
  refine qR V <| qM V V V <| qO V <| zY0 V V V <| qF V V V fo150_0 <| qO V <| zA2 V V hS ta39 V <| qM V V V ?_
  refine qX V V V V co20 (hfs _) ?_
  refine qM V V V <| qO V <| zS V V V <| qO V <| zS V V V <| qO V <| zM0 V zm55 V V <| qO V <| zZ V V V V sz55 V V (zA V) V <| qA V V V <| qN <| zB <| zB <| qR V <| qM V V V <| qO V <| zF1 V V <| qN <| zK V (V) <| zX <| zB <| zB <| qR V <| qF V V V zT4 <| qL V V V V ta53 V ?_
  refine qL V V V V ta27 V ?_
  refine qX V V V V co116 (valIs_spec (.mk fk fi) (.mk n1 m1 s1 c1 w1) ov _) ?_
  refine qO V <| zF1 V V <| qN ?_
  refine zM V (fun h34 => ?_) (fun h34 => ?_)
  ·
   have hty : (isF 16 (.mk fk fi) && isVF (.mk fk fi) (.mk n1 m1 s1 c1 w1)) = false := by rwa [Bool.not_eq_true'] at h34
   refine zB <| qR V <| qL V V V V ta27 V <| qO V <| zK1 V V zD1 (by simp) ?_
   refine qO V <| zZ V V V V sz27 V V (zA V) V <| qA V V V <| qA V V V <| qN <| zH ?_
   exact zB5 (.inr V) zW2 V V ta27 V (.refl _) (zO1 _ (.mk n1 m1 s1 c1 w1)) V (.refl _) (.bool _) V (.refl _) (cl_er 14) ⟨by rw [joined_type hf hty]; rfl, rfl⟩
  ·
   have hty : (isF 16 (.mk fk fi) && isVF (.mk fk fi) (.mk n1 m1 s1 c1 w1)) = true := by rwa [Bool.not_eq_false'] at h34
   refine zX <| zB <| qR V <| qM V V V <| qM V V V ?_
   refine qX V V V V co27 (hget _ (zQ hS) (zQ hm)) ?_
   refine qO V <| zM0 V zm27 V V <| qO V <| zZ V V V V sz27 V V (zA V) V <| qN <| zB <| qR V <| qM V V V <| qO V <| zY0 V V V <| qF V V V fo150_1 <| qF V V V fo148_1 <| qO V <| zA2 V V hS ta146 V <| qM V V V <| qO V <| zH3 (y := .tup [encV (.mk xn xm xs xc xv), .bool w.isSome]) (zO5 (t := 146) (e := 27) (z := zV) (m := (w.map encV).getD zV) (c := w.isSome) V (by kernel_rfl) (by kernel_rfl) V V (zQ hm) (by rw [hl]) (by rw [hl]; cases w <;> rfl) Vv) (.tup (.cons hsx (.cons (.refl _) .nil))) ?_
   refine qM V V V <| qO V <| zS V V V <| qO V <| zS V V V <| qO V <| zM0 V zm27 V V <| qO V <| zZ V V V V sz27 V V (zA V) V <| qA V V V <| qN ?_
   refine mwp_joinX (E := [(5, .ref (S.length + 0) 0), (6, .ref (S.length + 1) 0), (9, .ref (S.length + 2) 0), (11, .ref (S.length + 3) 0)]) (S ++ [.cells (encV (.mk n1 m1 s1 c1 w1)).cells, .cells [.int .u64 0, .int .u64 0, .lst0, .lst0, .lst0], .cells (encTb (fn, fl, .mk fk fi)).cells, .cells (encV (.mk gn gm gs gc gv)).cells, .cells (encV (.mk xn xm xs xc xv)).cells]) (¬ (w = none ∧ noneF (.mk fk fi) (.mk n1 m1 s1 c1 w1) = false ∧ 24 ≤ 0)) ?_ ?_
   ·
    refine zB <| qR V <| qM V V V <| qO V <| zF1 V V <| qM V V V ?_
    refine zH0 (fun h52 => ?_) (fun h52 => ?_)
    ·
     refine qF V V V zT4 <| qL V V V V ta53 V <| qL V V V V ta27 V ?_
     refine qX V V V V co119 (None_spec (.mk fk fi) (.mk n1 m1 s1 c1 w1) _) ?_
     refine qO V <| zF1 V V <| qP V V V V <| qM V V V ?_
     refine zH0 (fun h59 => ?_) (fun h59 => ?_)
     ·
      refine qM V V V <| qO V <| zY0 V V V <| qF V V V fo150_1 <| qF V V V fo148_0 <| qO V <| zA2 V V hS ta23 V <| qO V <| op_len_lst0 V zE0 V <| qC V V V V V <| qP V V V V <| qN ?_
      refine zM V (fun h67 => ?_) (fun h67 => ?_)
      ·
       have hk24 : 24 ≤ 0 := by simp at h67 <;> omega
       refine zB <| qR V <| qL V V V V ta27 V <| qO V <| zK1 V V zD1 (by simp) ?_
       refine qO V <| zZ V V V V sz27 V V (zA V) V <| qA V V V <| qA V V V <| qN <| zH ?_
       refine .inr ⟨nofun, ?_⟩
       exact zB5 (.inr V) zW2 V V ta27 V (.refl _) (zO1 _ (.mk n1 m1 s1 c1 w1)) V (.refl _) (.bool _) V (.refl _) (cl_er 15) ⟨by rw [joined_full hf hty ⟨by simpa using h52, by simpa using h59, hk24⟩]; rfl, rfl⟩
      ·
       refine zX ?_
       exact .inl ⟨rfl, rfl, .keep rfl (.keep rfl (.keep rfl (.keep rfl .nil))), by rintro ⟨q1, q2, q3⟩; simp_all <;> omega⟩
     ·
      refine qT V V V V <| qS V <| qS V <| qS V <| qP V V V V <| qN <| zK V (V) <| zX ?_
      exact .inl ⟨rfl, rfl, .keep rfl (.keep rfl (.keep rfl (.keep rfl .nil))), by rintro ⟨q1, q2, q3⟩; simp_all <;> omega⟩
    ·
     refine qT V V V V <| qS V <| qP V V V V <| qM V V V <| qT V V V V <| qS V <| qS V <| qS V <| qP V V V V <| qN <| zK V (V) <| zX ?_
     exact .inl ⟨rfl, rfl, .keep rfl (.keep rfl (.keep rfl (.keep rfl .nil))), by rintro ⟨q1, q2, q3⟩; simp_all <;> omega⟩
   ·
    intro hroom
    refine zB ?_
    have hof := join_spec (.mk fk fi) (.mk gn gm gs gc gv) (.mk n1 m1 s1 c1 w1) ow ov
    rcases joinR (.mk fk fi) (.mk gn gm gs gc gv) (.mk n1 m1 s1 c1 w1) with ⟨n3, m3, s3, c3, w3, hj⟩ | hj | hj <;> rw [hj] at hof
    ·
     obtain ⟨hok3, hsz3, hleq3⟩ := hb _ _ hf (by rw [hG]; exact hj)
     rw [hG] at hleq3
     have hlq := leq_spec (.mk fk fi) (.mk n3 m3 s3 c3 w3) (.mk gn gm gs gc gv) hok3.2 ow
     rw [hleq3] at hlq
     refine qR V <| qF V V V zT4 <| qL V V V V ta53 V <| qL V V V V ta27 V <| qL V V V V ta27 V ?_
     refine qX V V V V co145 (hof _) ?_
     refine qM V V V <| qO V <| zS V V V <| qO V <| zS V V V <| qO V <| zM0 V zm27 V V <| qO V <| zZ V V V V sz27 V V (zA V) V <| qA V V V <| qN <| zB <| zB <| qR V <| qM V V V <| qO V <| zV3 V zA0 V V (.inl Vv) <| qM V V V <| qF V V V zT4 <| qL V V V V ta53 V <| qL V V V V ta27 V ?_
     refine qX V V V V co90 (bytes_of (.mk fk fi) (.mk n3 m3 s3 c3 w3) (by rw [Bool.and_eq_true] at hty; exact hty.1) hok3 hsz3 _) ?_
     refine qO V <| zO3 V zL0 V <| qC V V V V V <| qP V V V V <| qN ?_
     refine zM V (fun h87 => ?_) (fun h87 => ?_)
     ·
      have hlen : 4000 < (valB (.mk fk fi) (.mk n3 m3 s3 c3 w3)).length := by simp at h87; omega
      refine qR V <| qO V <| zK1 V V zD1 (by simp) ?_
      refine qA V V V <| qN <| zB <| zB <| qR V <| qM V V V <| qO V <| zS2 V zA0 V V (.inr Vv) <| qN <| zU V (V) <| zB <| qR V <| qL V V V V ta27 V <| qM V V V <| qO V <| zZ V V V V sz27 V V (zA V) V <| qA V V V <| qA V V V <| qN <| zH ?_
      exact zB5 (.inr V) zW2 V V ta27 V (.refl _) (zO1 _ (.mk n1 m1 s1 c1 w1)) V (.refl _) (.bool _) V (.refl _) (cl_er 13) ⟨by rw [joined_ok hf hty hroom (by rw [hG]; exact hj), if_pos hlen]; rfl, rfl⟩
     ·
      have hlen : ¬ 4000 < (valB (.mk fk fi) (.mk n3 m3 s3 c3 w3)).length := by simp at h87; omega
      refine zX <| zB <| zB <| qR V <| qM V V V <| qO V <| zV3 V zA0 V V (.inr Vv) <| qN <| zK V (V) <| zX <| zB <| qR V <| qF V V V zT4 <| qL V V V V ta53 V <| qL V V V V ta27 V <| qL V V V V ta27 V ?_
      refine qX V V V V co146 (hlq _) ?_
      refine qM V V V <| qO V <| zS V V V <| qO V <| zS V V V <| qA V V V <| qA V V V <| qN <| zB <| qR V <| qL V V V V ta27 V <| qM V V V <| qO V <| zF1 V V <| qM V V V <| qO V <| zZ V V V V sz27 V V (zA V) V <| qA V V V <| qA V V V <| qN <| zH ?_
      exact zB5 (.inr V) zW2 V V ta27 V (.refl _) (zO1 _ (.mk n3 m3 s3 c3 w3)) V (.refl _) (.bool _) V (.refl _) (cl_er 0) ⟨by rw [joined_ok hf hty hroom (by rw [hG]; exact hj), if_neg hlen, hG]; rfl, rfl⟩
    ·
     refine qR V <| qF V V V zT4 <| qL V V V V ta53 V <| qL V V V V ta27 V <| qL V V V V ta27 V ?_
     refine qX V V V V co145 (hof _) ?_
     refine qM V V V <| qO V <| zS V V V <| qO V <| zS V V V <| qO V <| zM0 V zm27 V V <| qO V <| zZ V V V V sz27 V V (zA V) V <| qA V V V <| qN <| zB <| zB <| qR V <| qM V V V <| qO V <| zS2 V zA0 V V (.inl Vv) <| qM V V V <| qT V V V V <| qS V <| qS V <| qP V V V V ?_
     refine qN <| zK V (V) <| zX <| zB <| zB <| qR V <| qM V V V <| qO V <| zS2 V zA0 V V (.inr Vv) <| qN <| zU V (V) <| zB <| qR V <| qL V V V V ta27 V <| qM V V V <| qO V <| zZ V V V V sz27 V V (zA V) V <| qA V V V <| qA V V V <| qN <| zH ?_
     exact zB5 (.inr V) zW2 V V ta27 V (.refl _) (zO1 _ (.mk n1 m1 s1 c1 w1)) V (.refl _) (.bool _) V (.refl _) (cl_er 13) ⟨by rw [joined_err hf hty hroom (by rw [hG]; exact hj)]; rfl, rfl⟩
    ·
     refine qR V <| qF V V V zT4 <| qL V V V V ta53 V <| qL V V V V ta27 V <| qL V V V V ta27 V ?_
     refine qX V V V V co145 (hof _) ?_
     refine qM V V V <| qO V <| zS V V V <| qO V <| zS V V V <| qO V <| zM0 V zm27 V V <| qO V <| zZ V V V V sz27 V V (zA V) V <| qA V V V <| qN <| zB <| zB <| qR V <| qM V V V <| qO V <| zS2 V zA0 V V (.inl Vv) <| qM V V V <| qT V V V V <| qS V <| qS V <| qP V V V V ?_
     refine qN <| zK V (V) <| zX <| zB <| zB <| qR V <| qM V V V <| qO V <| zS2 V zA0 V V (.inr Vv) <| qN <| zU V (V) <| zB <| qR V <| qL V V V V ta27 V <| qM V V V <| qO V <| zZ V V V V sz27 V V (zA V) V <| qA V V V <| qA V V V <| qN <| zH ?_
     exact zB5 (.inr V) zW2 V V ta27 V (.refl _) (zO1 _ (.mk n1 m1 s1 c1 w1)) V (.refl _) (.bool _) V (.refl _) (cl_er 14) ⟨by rw [joined_err hf hty hroom (by rw [hG]; exact hj)]; rfl, rfl⟩
abbrev ltK (a b : Bs) : Prop := Op.bytesLess a b = true
theorem ltK_cons {x y : UInt8} {a b : Bs} : ltK (x :: a) (y :: b) ↔ x < y ∨ (x = y ∧ ltK a b) := by
 unfold ltK
 simp [Op.bytesLess]
theorem ltK_irrefl : ∀ a : Bs, ¬ ltK a a
 | [] => by simp [ltK, Op.bytesLess]
 | x :: a => by
  rw [ltK_cons]
  rintro (h | ⟨_, h⟩)
  ·exact UInt8.lt_irrefl _ h
  ·exact ltK_irrefl a h
theorem ltK_trans : ∀ {a b c : Bs}, ltK a b → ltK b c → ltK a c
 | _, [], _, h, _ => by simp [ltK, Op.bytesLess] at h
 | _, _ :: _, [], _, h => by simp [ltK, Op.bytesLess] at h
 | [], _ :: _, _ :: _, _, _ => by simp [ltK, Op.bytesLess]
 | x :: a, y :: b, z :: c, h1, h2 => by
  rw [ltK_cons] at h1 h2 ⊢
  rcases h1 with h1 | ⟨rfl, h1⟩
  ·rcases h2 with h2 | ⟨rfl, h2⟩
   ·exact .inl (UInt8.lt_trans h1 h2)
   ·exact .inl h1
  ·rcases h2 with h2 | ⟨rfl, h2⟩
   ·exact .inl h2
   ·exact .inr ⟨rfl, ltK_trans h1 h2⟩
def UpB (l : List Bs) : Prop := l.Pairwise ltK
def lowB (t : Bs) (x : List Bs) : Nat := (x.filter fun y => Op.bytesLess y t).length
theorem low_le (t : Bs) (x : List Bs) : lowB t x ≤ x.length := List.length_filter_le _ _
theorem low_lt {t : Bs} : ∀ {x : List Bs}, UpB x → ∀ {h : Nat} {y : Bs}, x[h]? = some y → (Op.bytesLess y t = true ↔ h < lowB t x)
 | [], _, h, y, hs => by simp at hs
 | a :: l, hu, h, y, hs => by
  obtain ⟨h1, h2⟩ := zI5.1 hu
  by_cases ha : Op.bytesLess a t = true
  ·have e : lowB t (a :: l) = lowB t l + 1 := by unfold lowB; rw [List.filter_cons, if_pos ha]; rfl
   rw [e]
   cases h with
   | zero => simp at hs; subst hs; simp [ha]
   | succ h =>
    rw [low_lt h2 (h := h) (by simpa using hs)]
    omega
  ·have hn : ∀ z ∈ l, ¬ Op.bytesLess z t = true := fun z hz hh => ha (ltK_trans (h1 z hz) hh)
   have e : lowB t (a :: l) = 0 := by
    unfold lowB
    rw [List.filter_cons, if_neg ha, List.filter_eq_nil_iff.2 hn]; rfl
   rw [e]
   have hy : ¬ Op.bytesLess y t = true := by
    cases h with
    | zero => simp at hs; subst hs; exact ha
    | succ h => exact hn y (zW (by simpa using hs))
   simp [hy]
theorem low_mem {t : Bs} {x : List Bs} (hu : UpB x) : t ∈ x ↔ x[lowB t x]? = some t := by
 constructor
 ·intro h
  obtain ⟨p, hp⟩ := List.getElem?_of_mem h
  have h1 : ¬ p < lowB t x := fun hh => ltK_irrefl _ ((low_lt hu hp).2 hh)
  rcases Nat.lt_or_eq_of_le (Nat.le_of_not_lt h1) with h2 | h2
  ·have hpl := (zD.1 hp).1
   obtain ⟨z, hz⟩ : ∃ z, x[lowB t x]? = some z := ⟨_, zC (by omega)⟩
   have hlt : Op.bytesLess z t = true := by
    have := List.pairwise_iff_getElem.1 hu (lowB t x) p (by omega) hpl h2
    rw [(zD.1 hz).2, (zD.1 hp).2] at this
    exact this
   exact absurd ((low_lt hu hz).1 hlt) (by omega)
  ·rw [h2]; exact hp
 ·exact fun h => zW h
theorem mput_cl {d clk : Nat} {s : ByteArray} {v : MV} {es : List ME} (h : ∀ e ∈ es, Cl d e.2.1) (hv : Cl d v) : ∀ e ∈ mpPut clk s v es, Cl d e.2.1 := by
 intro e he
 unfold mpPut at he
 split at he
 ·obtain ⟨j, hj⟩ := List.getElem?_of_mem he
  rw [List.getElem?_modify] at hj
  cases hx : es[j]? with
  | none => rw [hx] at hj; cases hj
  | some x =>
   rw [hx] at hj
   simp only [Option.map_eq_map, Option.map_some, Option.some.injEq] at hj
   have := h x (zW hx)
   split at hj
   ·subst hj
    exact hv
   ·subst hj
    exact this
 ·rcases zQ2.1 he with he | he
  ·exact h e he
  ·simp at he
   subst he
   exact hv
theorem cl_tbo {n : Nat} {l : List Tbl} {k : Bs} {mid : Nat} (h : (tbO0 l mid).cl n) : (tbO l [k] mid).cl n := by
 intro x hx
 simp only [List.mem_cons, List.not_mem_nil, or_false] at hx
 rcases hx with rfl | rfl | rfl
 ·exact cl_tbs n l
 ·exact zL5 n [k]
 ·exact h _ (by simp)
theorem u64_natK {n : Nat} (h : n < 18446744073709551616) : IntKind.u64.wrap (n : Int) = (n : Int) := by
 simp [IntKind.wrap, IntKind.signed, IntKind.bits]
 omega
theorem i64_natK {n : Nat} (h : n < 9223372036854775808) : IntKind.i64.wrap (n : Int) = (n : Int) := by
 simp [IntKind.wrap, IntKind.signed, IntKind.bits]
 omega
theorem shr1_u64K {m : Nat} : Int.fdiv (m : Int) (2 ^ min ((1 : Int).toNat) IntKind.u64.bits) = ((m / 2 : Nat) : Int) := by
 rw [show min ((1 : Int).toNat) IntKind.u64.bits = 1 by decide, show (2 : Int) ^ 1 = ((2 : Nat) : Int) by decide, Int.fdiv_eq_ediv_of_nonneg _ (Int.natCast_nonneg _)]
 rfl
theorem kNaNs_spec (x : Bs) (S : MS) : MCalls Tryz.prog 235 [encX x] S fun v σ' => v = .bool false ∧ σ' = S := by
 refine zR Tryz.func235 V Tryz.ntmps235 (zA V) ?_
 refine zB <| qR V <| qA V V V <| qN <| zB <| qR V <| qM V V V <| qM V V V <| qO V <| zB3 V V V V <| qA V V V <| qN <| zH ?_
 exact zT (.inr V) Tryz.results235 V (.of_eq (by simp)) (.bool _) Vv
theorem kNaNx_spec (x : Bs) (S : MS) : MCalls Tryz.prog 190 [encX x] S fun v σ' => v = .bool false ∧ σ' = S := by
 refine zR Tryz.func190 V Tryz.ntmps190 (zA V) ?_
 refine zB <| qR V <| qA V V V <| qN <| zB <| qR V <| qM V V V <| qM V V V <| qO V <| zB3 V V V V <| qA V V V <| qN <| zH ?_
 exact zT (.inr V) Tryz.results190 V (.of_eq (by simp)) (.bool _) Vv
theorem kLess_spec (x y : Bs) (S : MS) : MCalls Tryz.prog 189 [encX x, encX y] S fun v σ' => v = .bool (Op.bytesLess x y) ∧ σ' = S := by
 refine zR Tryz.func189 V Tryz.ntmps189 (zA V) ?_
 refine zB <| qR V <| qA V V V <| qN <| zB <| qR V <| qM V V V ?_
 refine qX V V V V co235 (kNaNs_spec x _) ?_
 refine qM V V V ?_
 refine zH0 (fun h7 => ?_) (fun h7 => ?_)
 ·
  refine qM V V V ?_
  refine qX V V V V co235 (kNaNs_spec y _) ?_
  refine qO V <| zF1 V V <| qP V V V V <| qM V V V ?_
  refine zH0 (fun h12 => ?_) (fun h12 => ?_)
  ·
   refine qS V <| qS V <| qS V <| qP V V V V <| qA V V V <| qN <| zH ?_
   exact zT (.inr V) Tryz.results189 V (.of_eq (by first | (simp; done) | (simp_all; done))) (.bool _) Vv
  ·
   refine qM V V V <| qM V V V <| qO V <| zB3 V V V V <| qP V V V V <| qA V V V <| qN <| zH ?_
   exact zT (.inr V) Tryz.results189 V (.of_eq (by first | (simp; done) | (simp_all; done))) (.bool _) Vv
 ·
  refine qS V <| qS V <| qS V <| qP V V V V <| qM V V V <| qM V V V <| qM V V V <| qO V <| zB3 V V V V <| qP V V V V <| qA V V V <| qN <| zH ?_
  exact zT (.inr V) Tryz.results189 V (.of_eq (by first | (simp; done) | (simp_all; done))) (.bool _) Vv
theorem kSearch_spec (l : List Bs) (t : Bs) (hu : UpB l) (hl : l.length ≤ 100000) (S : MS) : MCalls Tryz.prog 147 [.lst none 1 (l.map encX), encX t] S fun v σ' => v = .tup [.int .i64 ((lowB t l : Nat) : Int), .bool (decide (t ∈ l))] ∧ σ' = S := by
 refine zR Tryz.func147 V Tryz.ntmps147 (zA V) ?_
 refine zB <| qR V <| qA V V V <| qA V V V <| qN <| zB <| qR V <| qM V V V <| qE V V zE0 V <| qA V V V <| qN <| zB <| qR V <| qM V V V <| qA V V V <| qA V V V <| qN <| zB <| zB0 ?_
 refine zK2 (α := Nat × Nat) [(0, _), (1, _), (6, _)] (fun x => [(7, .int .i64 (x.1 : Int)), (8, .int .i64 (x.2 : Int))]) (fun x => []) (fun x => x.1 ≤ lowB t l ∧ lowB t l ≤ x.2 ∧ x.2 ≤ l.length) (fun x => x.2 - x.1) (⟨0, l.length⟩) (.keep V (.keep V (.keep V (.nil)))) (.keep V (.eq V (by rw [zF]) (.nil))) (⟨by simp, low_le t l, Nat.le_refl _⟩) (V) ?_
 rintro ⟨i, j⟩ ⟨hi, hj, hjl⟩
 dsimp only at hi hj hjl ⊢
 refine zB <| zB <| qR V <| qM V V V <| qM V V V <| qC V V V V V <| qN ?_
 refine zM V (fun h15 => ?_) (fun h15 => ?_)
 ·
  have hij : i < j := by simpa using h15
  obtain ⟨y, hs⟩ : ∃ q, l[(i + j) / 2]? = some q := ⟨_, zC (by omega)⟩
  refine zX <| zB0 <| zB <| qR V <| qM V V V <| qM V V V <| qO V <| zH1 V V V (wadd (a := i) (b := j) V (by omega)) ?_
  refine qO V <| zL3 V zX2 Tryz.underlying237 V (u64_natK (show i + j < _ by omega)) ?_
  refine qO V <| op_shr V V V (by omega) (shr1_u64K) ?_
  refine qO V <| zL3 V Tryz.underlying237 zX2 V (i64_natK (show (i + j) / 2 < _ by omega)) ?_
  refine qA V V V <| qN <| zB <| qR V <| qM V V V <| qM V V V <| qO V <| zI V zE0 sz9 (by decide) V V V (zM1 hs) ?_
  refine qO V <| zL V V ta9 V <| qM V V V ?_
  refine qX V V V V co189 (kLess_spec y t _) ?_
  refine qN ?_
  refine zM V (fun h27 => ?_) (fun h27 => ?_)
  ·
   have hlt : (i + j) / 2 < lowB t l := (low_lt hu hs).1 h27
   refine qR V <| qM V V V <| qO V <| zH1 V V V (wadd (a := (i + j) / 2) (b := 1) V (by omega)) ?_
   refine qA V V V <| qN ?_
   refine ⟨⟨(i + j) / 2 + 1, j⟩, by dsimp only; omega, ⟨by dsimp only; omega, hj, hjl⟩, rfl, (.keep V (.keep V (.keep V (.nil)))), (.eq V (V) (.keep V (.nil)))⟩
  ·
   have hlt : ¬ (i + j) / 2 < lowB t l := fun hh => by have := (low_lt hu hs).2 hh; rw [this] at h27; cases h27
   refine qR V <| qM V V V <| qA V V V <| qN ?_
   refine ⟨⟨i, (i + j) / 2⟩, by dsimp only; omega, ⟨hi, by dsimp only; omega, by dsimp only; omega⟩, rfl, (.keep V (.keep V (.keep V (.nil)))), (.keep V (.eq V (V) (.nil)))⟩
 ·
  have hij : ¬ i < j := by simpa using h15
  have hii : i = lowB t l := by omega
  have hjj : j = lowB t l := by omega
  subst hii
  refine zV1 <| zB <| qR V <| qM V V V <| qM V V V <| qM V V V <| qC V V V V V <| qM V V V ?_
  refine zH0 (fun h35 => ?_) (fun h35 => ?_)
  ·
   obtain ⟨z, hs2⟩ : ∃ q, l[lowB t l]? = some q := ⟨_, zC (by simp at h35; omega)⟩
   refine qM V V V <| qM V V V <| qO V <| zI V zE0 sz9 (by decide) V V V (zM1 hs2) ?_
   refine qO V <| zL V V ta9 V <| qM V V V <| qO V <| zB3 V V V V <| qM V V V ?_
   refine zH0 (fun h42 => ?_) (fun h42 => ?_)
   ·
    have hfin : true = decide (t ∈ l) := by
     symm
     rw [decide_eq_true_iff, low_mem hu, hs2]
     simpa using h42
    refine qT V V V V <| qT V V V V <| qS V <| qP V V V V <| qP V V V V <| qA V V V <| qA V V V <| qN <| zH ?_
    first | exact ret_tmp2 (.inr rfl) Tryz.results147 rfl rfl (.refl _) (.of_eq (congrArg MV.bool hfin)) (.int _ _) (.bool _) ⟨rfl, rfl⟩ | exact absurd h48 (by decide)
   ·
    have hfin : false = decide (t ∈ l) := by
     symm
     rw [decide_eq_false_iff_not, low_mem hu, hs2]
     simpa using h42
    refine qM V V V <| qM V V V <| qO V <| zI V zE0 sz9 (by decide) V V V (zM1 hs2) ?_
    refine qO V <| zL V V ta9 V ?_
    refine qX V V V V co190 (kNaNx_spec _ _) ?_
    refine qM V V V <| qS V <| qS V <| qP V V V V <| qP V V V V <| qP V V V V <| qA V V V <| qA V V V <| qN <| zH ?_
    first | exact ret_tmp2 (.inr rfl) Tryz.results147 rfl rfl (.refl _) (.of_eq (congrArg MV.bool hfin)) (.int _ _) (.bool _) ⟨rfl, rfl⟩ | exact absurd h48 (by decide)
  ·
   have hfin : false = decide (t ∈ l) := by
    symm
    rw [decide_eq_false_iff_not, low_mem hu]
    intro hh
    have := (zD.1 hh).1
    simp at h35
    omega
   refine qT V V V V <| qT V V V V <| qT V V V V <| qT V V V V <| qS V <| qP V V V V <| qA V V V <| qA V V V <| qN <| zH ?_
   first | exact ret_tmp2 (.inr rfl) Tryz.results147 rfl rfl (.refl _) (.of_eq (congrArg MV.bool hfin)) (.int _ _) (.bool _) ⟨rfl, rfl⟩ | exact absurd h48 (by decide)
theorem insert0_spec (k : Bs) (S : MS) : MCalls Tryz.prog 148 [.lst0, .int .i64 0, .lst none 1 [encX k]] S fun v σ' => v = .lst none 1 ([k].map encX) ∧ σ' = S := by
 refine zR Tryz.func148 V Tryz.ntmps148 (zA V) ?_
 refine zB <| qR V <| qA V V V <| qN <| zB <| qR V <| qO V <| zH3 (y := .lst none 1 ([] : List MV)) (zY V V Vv) (.nil 1) <| qM V V V <| qO V <| zC2 V zE0 sz9 V (.some V V) .none (by decide) (by decide) ?_
 refine qN <| zB <| qR V <| qM V V V <| qE V V zE0 V <| qA V V V <| qN <| zB <| zB <| qR V <| qM V V V <| qC V V V V V <| qN <| zK V (V) <| zX <| zB <| qR V <| qM V V V <| qO V <| op_len_lst0 V zE0 V <| qA V V V <| qN <| zB ?_
 refine zB <| qR V <| qM V V V <| qM V V V <| qC V V V V V <| qN <| zU V (V) <| zB <| qR V <| qM V V V <| qM V V V <| qO V <| op_append0' V zE0 el9 V V (by simp) (by simp) V V ?_
 refine qA V V V <| qN <| zH ?_
 exact zT (.inr V) Tryz.results148 V (.view _ _ _) (zL5 _ [k]) Vv
theorem riseNew_spec (S : MS) (tid mid clk : Nat) (es : List ME) (l : List Tbl) (k : Bs) (a : Val) (hne : tid ≠ mid) (hS : S[tid]? = some (tbO0 l mid)) (hm : S[mid]? = some (.mp clk es)) : MCalls Tryz.prog 86 [.ref tid 1, .str (bs k), encV a] S fun v σ' => v = .tup [] ∧ σ' = (S.set tid (tbO l [k] mid)).set mid (.mp (mpClk clk (bs k) es) (mpPut clk (bs k) (encV a) es)) := by
 refine zR Tryz.func86 V Tryz.ntmps86 (zA V) ?_
 obtain ⟨n1, m1, s1, c1, w1, hv⟩ := zY4 a
 subst hv
 refine zG1 fun _ hcl => ?_
 rw [List.append_nil] at hcl
 have hm2 : (S.set tid (tbO l [k] mid))[mid]? = some (.mp clk es) := by rw [List.getElem?_set_ne hne]; exact hm
 refine zB <| qR V <| qB V V V V V <| qN <| zB <| zB <| qR V <| qM V V V <| qO V <| zY0 V V V <| qF V V V fo148_0 <| qO V <| zH3 (y := .lst none 1 (([] : List Bs).map encX)) (zA2 V V hS ta23 V Vv) (.nil 1) <| qM V V V ?_
 refine qX V V V V co147 (kSearch_spec [] k .nil (by simp) _) ?_
 rw [decide_eq_false (by simp)]
 refine qM V V V <| qO V <| zS V V V <| qO V <| zS V V V <| qA V V V <| qA V V V <| qN <| zB <| qR V <| qM V V V <| qO V <| zF1 V V <| qN <| zU V (V) <| qR V <| qM V V V <| qM V V V <| qO V <| zY0 V V V <| qF V V V fo148_0 <| qO V <| zA2 V V hS ta23 V ?_
 refine qM V V V <| qM V V V <| qO V <| zL1 V zE0 el9 V V (by decide) (by decide) V V ?_
 refine qX V V V V co148 (insert0_spec k _) ?_
 refine qO V <| zY0 V V V <| qF V V V fo148_0 <| qO V <| op_store_far V V V hS sz23 V V (zA V) <| qN ?_
 refine zW0 [6] [_, (S.set tid (tbO l [k] mid)).set mid (.mp (mpClk clk (bs k) es) (mpPut clk (bs k) (encV (.mk n1 m1 s1 c1 w1)) es)) ++ [.cells (encV (.mk n1 m1 s1 c1 w1)).cells]] mo (by decide) V V V V ?_
 refine dO V V V (zY V V Vv) <| dO V V V (zY0 V V V Vv) <| dO V V V (zG V V fo148_1 Vv) <| dO V V V (zA2 V V (get_set hS) ta146 V Vv) <| dO V V V (zY V V Vv) <| dO V V V (zJ V V (show _ = some (MObj.cells (encV (.mk n1 m1 s1 c1 w1)).cells) by rw [own_getS (by simp)]; rfl) ta27 V Vv) ?_
 refine zV0 V V V V (op_mapUpdate (t := 146) (e := 27) (.inl V) (by kernel_rfl) V V V (zQ hm2) ⟨rfl, by exact set_app hm2⟩) ?_
 refine zQ0 ?_
 exact zN2 (.inl V) Tryz.results86 (by simp) ((hcl.set (cl_tbo (hcl _ _ hS))).set (by rw [List.length_set]; exact mput_cl (hcl mid (.mp clk es) hm) (zO1 _ _))) Vv
end Go.Proofs.YtciimaabeabkdaaGreatDoor
namespace Go.Proofs.YtciimaabeabkdaaGreatDoor
open Go Go.MV Go.RowKit
theorem hn3 : numM ([3] ++ [120], none) = (3, ([120], none)) := by rfl
theorem hn0 : numM ([], none) = (0, ([], some 11)) := by rfl
end Go.Proofs.YtciimaabeabkdaaGreatDoor
namespace Go.Proofs.YtciimaabeabkdaaGreatDoor
open Go Go.MV
theorem set2T_app {S L : MS} {i j : Nat} {o p o' p' : MObj} (hi : S[i]? = some o') (hj : S[j]? = some p') : ((S ++ L).set i o).set j p = (S.set i o).set j p ++ L := by
 have h1 := (zD.1 hi).1
 have h2 := (zD.1 hj).1
 rw [List.set_append_left _ _ h1, List.set_append_left _ _ (by simpa using h2)]
theorem putErr_spec (S : MS) (tid : Nat) (k : Bs) (a b : Val) (more : Bool) (n : Int) (hj : ∀ L : MS, MCalls Tryz.prog 85 [.ref tid 0, .str (bs k), encV a] (S ++ L) fun v σ' => v = .tup [encV b, .bool more, encErr n] ∧ σ' = S ++ L) : MCalls Tryz.prog 28 [.ref tid 0, .str (bs k), encV a] S fun v σ' => v = .tup [.bool false, encErr n] ∧ σ' = S := by
 refine zR Tryz.func28 V Tryz.ntmps28 (zA V) ?_
 obtain ⟨n1, m1, s1, c1, w1, hv⟩ := zY4 a
 obtain ⟨n2, m2, s2, c2, w2, hv2⟩ := zY4 b
 subst hv hv2
 refine zB <| qR V <| qB V V V V V <| qA V V V <| qA V V V <| qN <| zB <| qR V <| qM V V V <| qM V V V <| qL V V V V ta27 V ?_
 refine qX V V V V co85 (hj _) ?_
 refine qM V V V <| qO V <| zS V V V <| qO V <| zS V V V <| qO V <| zS V V V <| qO V <| zM0 V zm27 V V <| qO V <| zZ V V V V sz27 V V (zA V) V <| qA V V V <| qA V V V <| qN <| zB <| zB <| qR V <| qM V V V <| qO V <| zS2 V zA0 V V (.inr Vv) <| qM V V V <| qS V <| qS V <| qP V V V V ?_
 refine qN <| zU V (V) <| zB <| qR V <| qM V V V <| qA V V V <| qA V V V <| qN <| zH ?_
 exact ret_tmp2 (.inr V) Tryz.results28 V V (.refl _) (.refl _) (.bool _) (.iface _ _ (.int _ _)) Vv
theorem putLess_spec (S : MS) (tid : Nat) (k : Bs) (a b : Val) (hj : ∀ L : MS, MCalls Tryz.prog 85 [.ref tid 0, .str (bs k), encV a] (S ++ L) fun v σ' => v = .tup [encV b, .bool false, .iface0] ∧ σ' = S ++ L) : MCalls Tryz.prog 28 [.ref tid 0, .str (bs k), encV a] S fun v σ' => v = .tup [.bool false, .iface0] ∧ σ' = S := by
 refine zR Tryz.func28 V Tryz.ntmps28 (zA V) ?_
 obtain ⟨n1, m1, s1, c1, w1, hv⟩ := zY4 a
 obtain ⟨n2, m2, s2, c2, w2, hv2⟩ := zY4 b
 subst hv hv2
 refine zB <| qR V <| qB V V V V V <| qA V V V <| qA V V V <| qN <| zB <| qR V <| qM V V V <| qM V V V <| qL V V V V ta27 V ?_
 refine qX V V V V co85 (hj _) ?_
 refine qM V V V <| qO V <| zS V V V <| qO V <| zS V V V <| qO V <| zS V V V <| qO V <| zM0 V zm27 V V <| qO V <| zZ V V V V sz27 V V (zA V) V <| qA V V V <| qA V V V <| qN <| zB <| zB <| qR V <| qM V V V <| qO V <| zV3 V zA0 V V (.inr Vv) <| qM V V V <| qM V V V <| qO V <| zF1 V V ?_
 refine qP V V V V <| qN <| zU V (V) <| zB <| qR V <| qM V V V <| qA V V V <| qA V V V <| qN <| zH ?_
 exact ret_tmp2 (.inr V) Tryz.results28 V V (.refl _) (.refl _) (.bool _) (.iface0) Vv
theorem putNew_spec (S : MS) (tid : Nat) (k : Bs) (a b : Val) (hj : ∀ L : MS, MCalls Tryz.prog 85 [.ref tid 0, .str (bs k), encV a] (S ++ L) fun v σ' => v = .tup [encV b, .bool true, .iface0] ∧ σ' = S ++ L) (mid clk : Nat) (es : List ME) (l : List Tbl) (hne : tid ≠ mid) (hS : S[tid]? = some (tbO0 l mid)) (hm : S[mid]? = some (.mp clk es)) : MCalls Tryz.prog 28 [.ref tid 0, .str (bs k), encV a] S fun v σ' => v = .tup [.bool true, .iface0] ∧ σ' = (S.set tid (tbO l [k] mid)).set mid (.mp (mpClk clk (bs k) es) (mpPut clk (bs k) (encV b) es)) := by
 refine zR Tryz.func28 V Tryz.ntmps28 (zA V) ?_
 obtain ⟨n1, m1, s1, c1, w1, hv⟩ := zY4 a
 obtain ⟨n2, m2, s2, c2, w2, hv2⟩ := zY4 b
 subst hv hv2
 refine zG1 fun _ hcl => ?_
 rw [List.append_nil] at hcl
 refine zB <| qR V <| qB V V V V V <| qA V V V <| qA V V V <| qN <| zB <| qR V <| qM V V V <| qM V V V <| qL V V V V ta27 V ?_
 refine qX V V V V co85 (hj _) ?_
 refine qM V V V <| qO V <| zS V V V <| qO V <| zS V V V <| qO V <| zS V V V <| qO V <| zM0 V zm27 V V <| qO V <| zZ V V V V sz27 V V (zA V) V <| qA V V V <| qA V V V <| qN <| zB <| zB <| qR V <| qM V V V <| qO V <| zV3 V zA0 V V (.inr Vv) <| qM V V V <| qM V V V <| qO V <| zF1 V V ?_
 refine qP V V V V <| qN <| zK V (V) <| zX <| zB ?_
 refine zW0 [5] [_, (S.set tid (tbO l [k] mid)).set mid (.mp (mpClk clk (bs k) es) (mpPut clk (bs k) (encV (.mk n2 m2 s2 c2 w2)) es)) ++ [.cells (encV (.mk n1 m1 s1 c1 w1)).cells, .cells (encV (.mk n2 m2 s2 c2 w2)).cells]] mo (by decide) V V V V ?_
 refine zN V V (.cons (zY V V Vv) (.cons (zY V V Vv) (.nil))) <| zN V V (.cons (zY0 V V V Vv) (.cons (zY0 V V V Vv) (.nil))) <| dO V V V (zG V V fo150_1 Vv) <| dO V V V (zY V V Vv) <| dO V V V (zN0 V V V ta27 V Vv) <| zV0 V V V V (zT0 V V V co86 ((riseNew_spec _ tid mid clk es l k (.mk n2 m2 s2 c2 w2) hne (zQ hS) (zQ hm)).mono (by rintro _ _ ⟨rfl, rfl⟩; exact ⟨rfl, set2T_app hS hm⟩))) ?_
 refine zQ0 <| zB <| qR V <| qA V V V <| qA V V V <| qN <| zH ?_
 exact ret_tmp2S (.inr V) Tryz.results28 V V (.refl _) (.refl _) (.bool _) .iface0 (by simp) ((hcl.set (cl_tbo (hcl _ _ hS))).set (by rw [List.length_set]; exact mput_cl (hcl mid (.mp clk es) hm) (zO1 _ _))) Vv
abbrev Ety := Bs × Val
def encEn : Ety → MV
 | (k, .mk n m s c w) => .agg [.str (bs k), .int .u64 n, .int .u64 m, .lst none 1 (s.map encX), .lst none 1 (c.map encC), .lst none 5 (encVs w)]
def okT (l0 bid tid mid clk : Nat) (es : List ME) (l : List Tbl) (E : List Ety) (σ : MS) : Prop := (σ.length = l0 ∧ σ[bid]? = some (.cells [.ref tid 1]) ∧ σ[tid]? = some (tbO l (E.map Prod.fst) mid) ∧ σ[mid]? = some (.mp clk es))
def etyY (e : Ety) : List MV := [encX e.1, encV e.2]
theorem all_iter (E : List Ety) (hlen : E.length ≤ maxLen) (l0 bid tid mid clk : Nat) (es : List ME) (l : List Tbl) (hE : ∀ e ∈ E, mpLook (bs e.1) es = some (encV e.2)) : IterOk Tryz.prog 152 [] [.ref bid 0] (E.map etyY) (fun σ => okT l0 bid tid mid clk es l E σ ∧ ClS σ) := by
 refine iterOk_of fun id T m hok hm hyt hyf => ?_
 refine zR Tryz.func152 V Tryz.ntmps152 (zA V) ?_
 have hml : (E.map etyY).length = E.length := zF ..
 rw [List.append_nil]
 show mwp _ _ _ _ _ _ _ (([] : MS) ++ T 0)
 refine zB <| qR V <| qO V <| zJ V V ((hok _).1.2.1) ta223 V <| qO V <| zY0 V V V <| qF V V V fo148_0 <| qO V <| zJ V V ((hok _).1.2.2.1) ta23 V <| qE V V zE0 V <| qM V V V <| qN <| zB0 ?_
 refine zK2 (α := Nat) [(0, _), (1, _), (8, _), (9, _)] (fun j => [(10, .int .i64 (j : Int))]) (fun j => T j) (fun j => j ≤ m) (fun j => m + 1 - j) (0) (.keep V (.keep V (.keep V (.keep V (.nil))))) (.keep V (.nil)) (by omega) (V) ?_
 rintro j hj
 refine zB <| qR V <| qC V V V V V <| qN <| zB ?_
 refine zM V (fun h11 => ?_) (fun h11 => ?_)
 ·
  rw [zF, zF] at h11
  have hlt : j < E.length := by simpa using h11
  obtain ⟨⟨kx, ⟨n1, m1, s1, c1, w1⟩⟩, hs⟩ : ∃ x, E[j]? = some x := ⟨_, zC hlt⟩
  have hy : (E.map etyY)[j]? = some [encX kx, encV (.mk n1 m1 s1 c1 w1)] := by rw [zI0, hs]; rfl
  refine zX <| zB <| zB0 <| zB <| qR V ?_
  refine zM4 V (zI V zE0 sz9 (by decide) V V V (show _ = some (encX kx) by rw [zI0, zI0, hs]; rfl) ?_)
  refine qO V <| zL V V ta9 V <| qA V V V <| qN <| zB ?_
  rcases Nat.lt_or_eq_of_le hj with hjm | hjm
  ·
   refine qR V <| qM V V V <| qM V V V <| qO V <| zJ V V ((hok _).1.2.1) ta223 V <| qO V <| zY0 V V V <| qF V V V fo148_1 <| qO V <| zJ V V ((hok _).1.2.2.1) ta146 V <| qM V V V <| qO V <| op_lookup (t := 146) (e := 27) (z := zV) (m := encV (.mk n1 m1 s1 c1 w1)) V (by kernel_rfl) (by kernel_rfl) V V (hok _).1.2.2.2 (by rw [hE _ (zW hs)]; rfl) ?_
   refine qO V <| ((hyt j _ hjm hy).at0 V V V).mono ?_
   rintro _ _ ⟨rfl, rfl⟩
   refine qO V <| zF1 V V <| qN <| zK V (V) <| zX <| qR V <| qO V <| zH1 V V V V <| qM V V V <| qN ?_
   refine ⟨j + 1, by omega, by omega, rfl, (.keep V (.keep V (.keep V (.keep V (.nil))))), (.eq V (zH2 hlt (by omega)) (.nil))⟩
  ·
   refine qR V <| qM V V V <| qM V V V <| qO V <| zJ V V ((hok _).1.2.1) ta223 V <| qO V <| zY0 V V V <| qF V V V fo148_1 <| qO V <| zJ V V ((hok _).1.2.2.1) ta146 V <| qM V V V <| qO V <| op_lookup (t := 146) (e := 27) (z := zV) (m := encV (.mk n1 m1 s1 c1 w1)) V (by kernel_rfl) (by kernel_rfl) V V (hok _).1.2.2.2 (by rw [hE _ (zW hs)]; rfl) ?_
   refine qO V <| ((hyf j _ hjm hy).at0 V V V).mono ?_
   rintro _ _ ⟨rfl, rfl⟩
   refine qO V <| zF1 V V <| qN <| zU V (V) ?_
   refine zG1 fun hcv hcl => ?_
   refine zH ?_
   exact zV2 (S' := T (j + 1)) (by simp) Tryz.results152 (by rw [(hok _).1.1, (hok _).1.1]; exact Nat.le_refl _) hcl ⟨rfl, by rw [hjm, if_pos (by omega)]⟩
 ·
  rw [zF, zF] at h11
  have hge : E.length ≤ j := by simp at h11; omega
  have hjm : j = m := by omega
  refine zG1 fun hcv hcl => ?_
  refine zV1 ?_
  exact zV2 (S' := T j) (by simp) Tryz.results152 (by rw [(hok _).1.1, (hok _).1.1]; exact Nat.le_refl _) hcl ⟨rfl, by rw [hjm, if_neg (by omega)]⟩
theorem tblAll_spec (S : MS) (tid : Nat) : MCalls Tryz.prog 89 [.ref tid 1] S fun v σ' => v = .fn (.func 152) [] [.ref S.length 0] ∧ σ' = S ++ [.cells [.ref tid 1]] := by
 refine zR Tryz.func89 V Tryz.ntmps89 (zA V) ?_
 refine zB <| qR V <| qB V V V V V <| qA V V V <| qN <| zB <| qR V <| qO V <| zI2 V V V <| qA V V V <| qN ?_
 refine zG1 fun hcv hcl => ?_
 refine zH ?_
 exact ret_tmpT (.inr V) Tryz.results89 V (.refl _) (hcv 2 _ rfl) (by simp) hcl Vv
theorem cl_encEn (n : Nat) (e : Ety) : Cl n (encEn e) := by
 obtain ⟨k, ⟨a, b, s, c, w⟩⟩ := e
 have h := zO1 n (.mk a b s c w)
 cases h with
 | agg _ h =>
  refine .agg _ fun x hx => ?_
  rcases List.mem_cons.1 hx with rfl | hx
  ·exact .str _
  ·exact h x hx
theorem encEn_one (e : Ety) : encEn e = .agg (encEn e).cells := by
 obtain ⟨k, ⟨a, b, s, c, w⟩⟩ := e
 rfl
theorem okT_own {S : MS} {tid mid clk p q : Nat} {es : List ME} {l : List Tbl} {E : List Ety} (hS : S[tid]? = some (tbO l (E.map Prod.fst) mid)) (hm : S[mid]? = some (.mp clk es)) {L : MS} : okT (S.length + p) (S.length + q) tid mid clk es l E (S ++ L) ↔ (L.length = p ∧ L[q]? = some (.cells [.ref tid 1])) := by
 constructor
 ·rintro ⟨h1, h2, _⟩
  rw [zE] at h1
  rw [getElem?_own] at h2
  exact ⟨by omega, h2⟩
 ·rintro ⟨h1, h2⟩
  exact ⟨by rw [zE, h1], by rw [getElem?_own]; exact h2, zQ hS, zQ hm⟩
theorem own_clT {S : MS} {tid n t ty sz m : Nat} {o : MObj} {xs : List Ety} (ht : tid < n) (hn : t < n) (ho : o ∈ [MObj.cells [.lst (some t) 6 (xs.map encEn)], .cells [.ref tid 1], .row ty sz m]) : o.cl n := by
 simp only [List.mem_cons, List.not_mem_nil, or_false] at ho
 rcases ho with rfl | rfl | rfl
 ·intro x hx
  simp at hx
  subst hx
  exact cl_lstT hn (cl_encEn _) (fun e => .inl (encEn_one e))
 ·intro x hx
  simp at hx
  subst hx
  exact .ref _ _ ht
 ·trivial
theorem tableAll_spec (S : MS) (tid mid clk : Nat) (es : List ME) (l : List Tbl) (E : List Ety) (hlen : E.length ≤ 1000) (hE : ∀ e ∈ E, mpLook (bs e.1) es = some (encV e.2)) (hS : S[tid]? = some (tbO l (E.map Prod.fst) mid)) (hm : S[mid]? = some (.mp clk es)) : MCalls Tryz.prog 31 [.ref tid 0] S fun v σ' => v = .lst none 6 (E.map encEn) ∧ σ' = S := by
 refine zR Tryz.func31 V Tryz.ntmps31 (zA V) ?_
 have hml2 : maxLen ≥ 1000 := by decide
 refine zB <| qR V <| qA V V V <| qN <| zB <| qR V <| qO V <| zM0 V zm28 V V <| qN <| zB <| zB <| qR V <| qM V V V <| qO V <| zY0 V V V <| qF V V V fo150_1 ?_
 refine qX V V V V co89 (tblAll_spec _ tid) ?_
 rw [zO S]
 refine qN <| zB0 <| mwp_cellrow 0 132 6 V (Nat.le_refl _) V V ?_
 refine zG1 fun hcv0 hcl0 => ?_
 have hg : ∀ L : MS, okT (S.length + 4) (S ++ [MObj.cells [.lst0]]).length tid mid clk es l E (S ++ L) ↔ (L.length = 4 ∧ L[1]? = some (.cells [.ref tid 1])) := fun L => by rw [zE]; exact okT_own (q := 1) hS hm
 refine mwp_rangeB (ok := okT (S.length + 4) (S ++ [MObj.cells [.lst0]]).length tid mid clk es l E) (ys := E.map etyY) .ret (.inl V) (fun j => true) (fun j => ([.cells [.lst (some (S.length + 2)) 6 ((E.take j).map encEn)], .cells [.ref tid 1], .row 132 6 (E.take j).length] : MS)) (fun j => ([.cells [.lst (some (S.length + 2)) 6 ((E.take j).map encEn)], .cells [.ref tid 1], .row 132 6 (E.take j).length] : MS)) (fun j => V) (fun j => V) V (fun j o ho n hn => own_clT (S := S) (by have := (zD.1 hS).1; simp at hn; omega) (by simp at hn; omega) ho) (fun j o ho n hn => own_clT (S := S) (by have := (zD.1 hS).1; simp at hn; omega) (by simp at hn; omega) ho) V co152 V (by simp) (all_iter E (by omega) _ _ tid mid clk es l hE) (fun j => by rw [zO]; exact (hg _).2 Vv) (fun j s q => by rw [zO]; exact (hg _).2 Vv) V (fun y hy => by obtain ⟨i, _, rfl⟩ := List.mem_map.1 hy; rfl) ?_ ?_ ?_
 ·
  intro j y hy hbef L'
  rw [zI0] at hy
  obtain ⟨⟨kx, ⟨n1, m1, s1, c1, w1⟩⟩, hs, rfl⟩ := Option.map_eq_some_iff.1 hy
  have htl : (E.take j).length ≤ 1000 := by rw [List.length_take]; omega
  refine zB <| qR V <| qA V V V <| qN <| qR V <| qO V <| zS4 V zm27 <| qO V <| zY2 V V V sz27 V V (zA V) <| qN ?_
  refine ⟨rfl, [_], rfl, ?_⟩
  rw [zO (S ++ _)]
  refine mwp_abs fun R hR => ?_
  refine zB0 <| qR V <| qO V <| zN4 V V V ta28 V <| qM V V V <| qO V <| zJ V V (by rw [hR]; exact get_rt) ta27 V ?_
  refine qO V <| zR1 V Tryz.underlying132 zm132 (.cons fo132_0 sz9 V V (zA V) (.cons fo132_1 sz27 V V (zA V) .nil)) (by kernel_rfl) ?_
  refine qO V <| zL1 V Tryz.underlying28 el132 V V (by decide) (by decide) V V ?_
  refine qO V <| op_append_mid V Tryz.underlying28 el132 V V V (by simp) (by simp only [zF, zF0, List.length_nil]; omega) (by simp only [zF, zF0, List.length_nil]; omega) V ?_
  refine qO V <| zB4 V V V V sz28 V V (zA V) V <| qN ?_
  exact .inl ⟨rfl, rfl, [_], by rw [hR, List.take_add_one (l := E), hs, Option.toList_some, List.map_append, len_snoc]; exact (zO _ _ _).symm⟩
 ·
  intro _
  rw [zO S, zF, List.take_length]
  refine zB <| qR V <| qL V V V V ta28 V <| qA V V V <| qN <| zH ?_
  exact zT (.inr V) Tryz.results31 V (.view _ _ _) (cl_lst (cl_encEn _) (fun e => .inl (encEn_one e))) Vv
 ·
  intro j y hy hp
  cases hp
def fitT (l : List Tbl) (key : Bs) (v : Val) : Prop := ∃ t, findP l key = some t ∧ isF 16 t.2.2 = true ∧ isOk t.2.2 v ∧ szM (encV v) ≤ 400000
noncomputable def sumV (l : List Tbl) (key : Bs) (v : Val) : Int := hashB (valB ((findP l key).getD tb0).2.2 v)
theorem tblSum0_spec (S : MS) (tid mid clk : Nat) (es : List ME) (l : List Tbl) (kx : MV) (key : Bs) (hS : S[tid]? = some (.cells [.lst none 4 (l.map encTb), kx, .map mid])) (hm : S[mid]? = some (.mp clk es)) (hl : mpLook (bs key) es = none) : MCalls Tryz.prog 32 [.ref tid 0, .str (bs key)] S fun v σ' => v = .int .u64 0 ∧ σ' = S := by
 refine zR Tryz.func32 V Tryz.ntmps32 (zA V) ?_
 refine zB <| qR V <| qA V V V <| qN <| zB <| qR V <| qM V V V <| qO V <| zY0 V V V <| qF V V V fo150_1 <| qF V V V fo148_1 <| qO V <| zA2 V V hS ta146 V <| qM V V V <| qO V <| zO5 (t := 146) (e := 27) (z := zV) (m := zV) (c := false) V (by kernel_rfl) (by kernel_rfl) V V (zQ hm) (by rw [hl]; rfl) (by rw [hl]; rfl) ?_
 refine qM V V V <| qO V <| zS V V V <| qO V <| zS V V V <| qO V <| zM0 V zm27 V V <| qO V <| zZ V V V V sz27 V V (zA V) V <| qA V V V <| qN <| zB <| zB <| qR V <| qM V V V <| qO V <| zF1 V V <| qN <| zU V (V) <| zB <| qR V <| qA V V V <| qN <| zH ?_
 exact zT (.inr V) Tryz.results32 V (.refl _) (.int _ _) Vv
theorem tblSum_spec (S : MS) (tid mid clk : Nat) (es : List ME) (l : List Tbl) (kx : MV) (key : Bs) (hS : S[tid]? = some (.cells [.lst none 4 (l.map encTb), kx, .map mid])) (hm : S[mid]? = some (.mp clk es)) (v : Val) (hl : mpLook (bs key) es = some (encV v)) (hf : fitT l key v) : MCalls Tryz.prog 32 [.ref tid 0, .str (bs key)] S fun x σ' => x = .int .u64 (sumV l key v) ∧ σ' = S := by
 refine zR Tryz.func32 V Tryz.ntmps32 (zA V) ?_
 obtain ⟨vn, vm, vs, vc, vv, hv⟩ := zY4 v
 subst hv
 obtain ⟨⟨fn, fl, ⟨fk, fi⟩⟩, hft, hfi, hok, hsz⟩ := hf
 have hfs := zU5 l key
 rw [hft] at hfs
 have hvl := (valB_len 16 (.mk fk fi) hfi (.mk vn vm vs vc vv) hok).2
 have hsm : sumV l key (.mk vn vm vs vc vv) = hashB (valB (.mk fk fi) (.mk vn vm vs vc vv)) := by unfold sumV; rw [hft]; rfl
 rw [hsm]
 refine zB <| qR V <| qA V V V <| qN <| zB <| qR V <| qM V V V <| qO V <| zY0 V V V <| qF V V V fo150_1 <| qF V V V fo148_1 <| qO V <| zA2 V V hS ta146 V <| qM V V V <| qO V <| zO5 (t := 146) (e := 27) (z := zV) (m := encV (.mk vn vm vs vc vv)) (c := true) V (by kernel_rfl) (by kernel_rfl) V V (zQ hm) (by rw [hl]; rfl) (by rw [hl]; rfl) ?_
 refine qM V V V <| qO V <| zS V V V <| qO V <| zS V V V <| qO V <| zM0 V zm27 V V <| qO V <| zZ V V V V sz27 V V (zA V) V <| qA V V V <| qN <| zB <| zB <| qR V <| qM V V V <| qO V <| zF1 V V <| qN <| zK V (V) <| zX <| zB <| qR V <| qM V V V <| qO V <| zY0 V V V <| qF V V V fo150_0 ?_
 refine qO V <| zA2 V V hS ta39 V <| qM V V V ?_
 refine qX V V V V co20 (hfs _) ?_
 refine qM V V V <| qO V <| zS V V V <| qO V <| zS V V V <| qO V <| zM0 V zm55 V V <| qO V <| zZ V V V V sz55 V V (zA V) V <| qA V V V <| qN <| zB <| qR V <| qF V V V zT4 <| qL V V V V ta53 V <| qL V V V V ta27 V ?_
 refine qX V V V V co90 (bytes_of (.mk fk fi) (.mk vn vm vs vc vv) hfi hok (by omega) _) ?_
 refine qX V V V V co65 (codeHash_spec (valB (.mk fk fi) (.mk vn vm vs vc vv)) (by omega) _) ?_
 refine qA V V V <| qN <| zH ?_
 exact zT (.inr V) Tryz.results32 V (.refl _) (.int _ _) Vv
theorem join_ok_of {s : Sch} {a b v : Val} (hs : isF 16 s = true) (ha : isVF s a = true) (hb : isVF s b = true) (h : bothF s a b = some v) : joinVF s a b = .ok v := by
 unfold joinVF
 rw [if_pos ⟨by rw [hs, ha]; rfl, by rw [hs, hb]; rfl⟩, h]
theorem join_err_b {s : Sch} {a b : Val} (hb : isVF s b = false) : joinVF s a b = .error 14 := join_err fun h => by rw [hb, Bool.and_false] at h; exact absurd h.2 (by decide)
theorem okV_num {a : Int} (h : 0 ≤ a ∧ a < 18446744073709551616) : okV (.mk a 0 [] [] []) := by simp [okV, okVs]; omega
theorem is_num (a : Int) : isVF (.mk 1 []) (.mk a 0 [] [] []) = true := by rw [zY1 1]; rfl
theorem both_num (a b : Int) : bothF (.mk 1 []) (.mk a 0 [] [] []) (.mk b 0 [] [] []) = some (.mk (max a b) 0 [] [] []) := by rw [zM3]; rfl
theorem join_num (a b : Int) : joinVF (.mk 1 []) (.mk a 0 [] [] []) (.mk b 0 [] [] []) = .ok (.mk (max a b) 0 [] [] []) := join_ok_of (by decide) (is_num a) (is_num b) (both_num a b)
end Go.Proofs.YtciimaabeabkdaaGreatDoor
namespace Go.Proofs.YtciimaabeabkdaaGreatDoor
open Go Go.MV Go.RowKit
abbrev ltB (a b : Bs) : Prop := Op.bytesLess a b = true
def Up (l : List Bs) : Prop := l.Pairwise ltB
section
section
variable {κ : Type} {cmp : κ → κ → Int}
structure OrdK (cmp : κ → κ → Int) : Prop where
 irr : ∀ a, ¬ cmp a a < 0
 tr : ∀ a b c, cmp a b < 0 → cmp b c < 0 → cmp a c < 0
 tot : ∀ a b, ¬ cmp a b < 0 → ¬ cmp b a < 0 → a = b
open Classical in
noncomputable def look (l : List (κ × Val)) (k : κ) : Option Val := match l with
 | [] => none
 | e :: l => if e.1 = k then some e.2 else look l k
open Classical in
theorem look_cons (e : κ × Val) (l : List (κ × Val)) (k : κ) : look (e :: l) k = if e.1 = k then some e.2 else look l k := rfl
theorem _root_.zW3 : type_of% @look_cons := @look_cons
def SrtK (cmp : κ → κ → Int) (l : List (κ × Val)) : Prop := l.Pairwise fun x y => cmp x.1 y.1 < 0
def HasK (l : List (κ × Val)) (k : κ) : Prop := ∃ e ∈ l, e.1 = k
theorem look_none {l : List (κ × Val)} {k : κ} (h : ¬ HasK l k) : look l k = none := by
 induction l with
 | nil => rfl
 | cons e l ih =>
  rw [look, if_neg (fun he => h ⟨e, .head _, he⟩)]
  exact ih fun ⟨x, hx, e2⟩ => h ⟨x, .tail _ hx, e2⟩
theorem srt_cons {e : κ × Val} {l : List (κ × Val)} : SrtK cmp (e :: l) ↔ (∀ y ∈ l, cmp e.1 y.1 < 0) ∧ SrtK cmp l := zI5
theorem not_has (ho : OrdK cmp) {k : κ} {l : List (κ × Val)} (h : ∀ y ∈ l, cmp k y.1 < 0) : ¬ HasK l k := fun ⟨e, he, e2⟩ => ho.irr k (by have := h e he; rwa [e2] at this)
theorem mem_look (ho : OrdK cmp) {l : List (κ × Val)} (hs : SrtK cmp l) {e : κ × Val} (h : e ∈ l) : look l e.1 = some e.2 := by
 induction l with
 | nil => cases h
 | cons x l ih =>
  have hs' := srt_cons.1 hs
  rw [look]
  rcases List.mem_cons.1 h with rfl | h
  ·rw [if_pos rfl]
  ·rw [if_neg]
   ·exact ih hs'.2 h
   ·intro e2
    have := hs'.1 e h
    rw [e2] at this
    exact ho.irr _ this
def fillE (f : Val → Val → Val) (e : Ent κ) : Val := match e.2.2 with | none => e.2.1 | some w => f e.2.1 w
def mergeG (cmp : κ → κ → Int) (f : Val → Val → Val) (a b : List (κ × Val)) : List (κ × Val) := (mergeE cmp a b).map fun e => (e.1, fillE f e)
def comb (f : Val → Val → Val) : Option Val → Option Val → Option Val
 | none, y => y
 | x, none => x
 | some x, some y => some (f x y)
theorem comb_none (f : Val → Val → Val) (x : Option Val) : comb f x none = x := by cases x <;> rfl
theorem merge_has {f : Val → Val → Val} (ho : OrdK cmp) (a b : List (κ × Val)) (k : κ) : HasK (mergeG cmp f a b) k ↔ HasK a k ∨ HasK b k := by
 unfold HasK mergeG
 simp only [List.mem_map]
 constructor
 ·rintro ⟨e, ⟨x, hx, rfl⟩, rfl⟩
  rcases (mergeE_mem cmp a b x hx).1 with h | h
  ·exact .inl ⟨_, h, rfl⟩
  ·exact .inr ⟨_, h, rfl⟩
 ·intro h
  suffices hs : ∃ x ∈ mergeE cmp a b, x.1 = k by
   obtain ⟨x, hx, e⟩ := hs
   exact ⟨_, ⟨x, hx, rfl⟩, e⟩
  revert h
  induction a, b using mergeE.induct cmp with
  | case1 => rintro (⟨e, he, _⟩ | ⟨e, he, _⟩) <;> cases he
  | case2 x a ih =>
   rw [mergeE]
   rintro (⟨e, he, rfl⟩ | ⟨e, he, _⟩)
   ·rcases List.mem_cons.1 he with rfl | he
    ·exact ⟨_, .head _, rfl⟩
    ·obtain ⟨z, hz, e2⟩ := ih (.inl ⟨e, he, rfl⟩)
     exact ⟨z, .tail _ hz, e2⟩
   ·cases he
  | case3 y b ih =>
   rw [mergeE]
   rintro (⟨e, he, _⟩ | ⟨e, he, rfl⟩)
   ·cases he
   ·rcases List.mem_cons.1 he with rfl | he
    ·exact ⟨_, .head _, rfl⟩
    ·obtain ⟨z, hz, e2⟩ := ih (.inr ⟨e, he, rfl⟩)
     exact ⟨z, .tail _ hz, e2⟩
  | case4 x a y b hlt ih =>
   rw [mergeE, if_pos hlt]
   rintro (⟨e, he, rfl⟩ | h)
   ·rcases List.mem_cons.1 he with rfl | he
    ·exact ⟨_, .head _, rfl⟩
    ·obtain ⟨z, hz, e2⟩ := ih (.inl ⟨e, he, rfl⟩)
     exact ⟨z, .tail _ hz, e2⟩
   ·obtain ⟨z, hz, e2⟩ := ih (.inr h)
    exact ⟨z, .tail _ hz, e2⟩
  | case5 x a y b hlt hgt ih =>
   rw [mergeE, if_neg hlt, if_pos hgt]
   rintro (h | ⟨e, he, rfl⟩)
   ·obtain ⟨z, hz, e2⟩ := ih (.inl h)
    exact ⟨z, .tail _ hz, e2⟩
   ·rcases List.mem_cons.1 he with rfl | he
    ·exact ⟨_, .head _, rfl⟩
    ·obtain ⟨z, hz, e2⟩ := ih (.inr ⟨e, he, rfl⟩)
     exact ⟨z, .tail _ hz, e2⟩
  | case6 x a y b hlt hgt ih =>
   have exy := ho.tot _ _ hlt hgt
   rw [mergeE, if_neg hlt, if_neg hgt]
   rintro (⟨e, he, rfl⟩ | ⟨e, he, rfl⟩)
   ·rcases List.mem_cons.1 he with rfl | he
    ·exact ⟨_, .head _, rfl⟩
    ·obtain ⟨z, hz, e2⟩ := ih (.inl ⟨e, he, rfl⟩)
     exact ⟨z, .tail _ hz, e2⟩
   ·rcases List.mem_cons.1 he with rfl | he
    ·exact ⟨_, .head _, exy⟩
    ·obtain ⟨z, hz, e2⟩ := ih (.inr ⟨e, he, rfl⟩)
     exact ⟨z, .tail _ hz, e2⟩
theorem look_merge (ho : OrdK cmp) (f : Val → Val → Val) : ∀ a b : List (κ × Val), SrtK cmp a → SrtK cmp b → ∀ k, look (mergeG cmp f a b) k = comb f (look a k) (look b k) := by
 intro a b
 induction a, b using mergeE.induct cmp with
 | case1 => intro _ _ k; simp [mergeG, mergeE, look, comb]
 | case2 x a ih =>
  intro ha hb k
  have ha' := srt_cons.1 ha
  have : mergeG cmp f (x :: a) [] = (x.1, x.2) :: mergeG cmp f a [] := by unfold mergeG; rw [mergeE]; rfl
  rw [this, zW3, zW3, ih ha'.2 hb]
  rw [show look ([] : List (κ × Val)) k = none from rfl, comb_none, comb_none]
 | case3 y b ih =>
  intro ha hb k
  have hb' := srt_cons.1 hb
  have : mergeG cmp f [] (y :: b) = (y.1, y.2) :: mergeG cmp f [] b := by unfold mergeG; rw [mergeE]; rfl
  rw [this, zW3, ih ha hb'.2]
  rw [show look ([] : List (κ × Val)) k = none from rfl, zW3]
  rfl
 | case4 x a y b hlt ih =>
  intro ha hb k
  have ha' := srt_cons.1 ha
  have hb' := srt_cons.1 hb
  have : mergeG cmp f (x :: a) (y :: b) = (x.1, x.2) :: mergeG cmp f a (y :: b) := by unfold mergeG; rw [mergeE, if_pos hlt]; rfl
  rw [this, zW3, ih ha'.2 hb]
  by_cases hk : x.1 = k
  ·subst hk
   rw [if_pos rfl, mem_look ho ha (.head _), look_none (not_has ho (k := x.1) (l := y :: b) fun z hz => ?_)]
   ·rfl
   ·rcases List.mem_cons.1 hz with rfl | hz
    ·exact hlt
    ·exact ho.tr _ _ _ hlt (hb'.1 z hz)
  ·rw [if_neg hk]
   congr 1
   rw [zW3, if_neg hk]
 | case5 x a y b hlt hgt ih =>
  intro ha hb k
  have ha' := srt_cons.1 ha
  have hb' := srt_cons.1 hb
  have : mergeG cmp f (x :: a) (y :: b) = (y.1, y.2) :: mergeG cmp f (x :: a) b := by unfold mergeG; rw [mergeE, if_neg hlt, if_pos hgt]; rfl
  rw [this, zW3, ih ha hb'.2]
  by_cases hk : y.1 = k
  ·subst hk
   rw [if_pos rfl, mem_look ho hb (.head _), look_none (not_has ho (k := y.1) (l := x :: a) fun z hz => ?_)]
   ·rfl
   ·rcases List.mem_cons.1 hz with rfl | hz
    ·exact hgt
    ·exact ho.tr _ _ _ hgt (ha'.1 z hz)
  ·rw [if_neg hk]
   congr 1
   conv => rhs; rw [zW3, if_neg hk]
 | case6 x a y b hlt hgt ih =>
  intro ha hb k
  have ha' := srt_cons.1 ha
  have hb' := srt_cons.1 hb
  have exy := ho.tot _ _ hlt hgt
  have : mergeG cmp f (x :: a) (y :: b) = (x.1, f x.2 y.2) :: mergeG cmp f a b := by unfold mergeG; rw [mergeE, if_neg hlt, if_neg hgt]; rfl
  rw [this, zW3, ih ha'.2 hb'.2]
  by_cases hk : x.1 = k
  ·subst hk
   rw [if_pos rfl, mem_look ho ha (.head _), exy, mem_look ho hb (.head _)]
   rfl
  ·rw [if_neg hk]
   conv => rhs; rw [zW3, if_neg hk, zW3, if_neg (exy ▸ hk)]
variable {blw : κ → κ → Prop}
def Dead (blw : κ → κ → Prop) (K : κ → Prop) (k : κ) : Prop := ∃ o, K o ∧ blw k o
open Classical in
noncomputable def topG (cmp : κ → κ → Int) (blw : κ → κ → Prop) (f : Val → Val → Val) (a b : List (κ × Val)) : List (κ × Val) := (mergeG cmp f a b).filter fun e => decide (¬ Dead blw (HasK (mergeG cmp f a b)) e.1)
theorem look_filter (q : κ → Bool) : ∀ (l : List (κ × Val)) (k : κ), look (l.filter fun e => q e.1) k = if q k = true then look l k else none
 | [], k => by simp [look]
 | e :: l, k => by
  by_cases hp : q e.1 = true
  ·rw [List.filter_cons_of_pos (p := fun e : κ × Val => q e.1) hp, zW3, look_filter q l k, zW3]
   by_cases hk : e.1 = k
   ·subst hk; simp [hp]
   ·simp [hk]
  ·rw [List.filter_cons_of_neg (p := fun e : κ × Val => q e.1) hp, look_filter q l k, zW3]
   by_cases hk : e.1 = k
   ·subst hk; simp [hp]
   ·simp [hk]
def Or2 (a b : List (κ × Val)) (k : κ) : Prop := HasK a k ∨ HasK b k
open Classical in
theorem look_top (ho : OrdK cmp) {f : Val → Val → Val} {a b : List (κ × Val)} (ha : SrtK cmp a) (hb : SrtK cmp b) (k : κ) : look (topG cmp blw f a b) k = if Dead blw (Or2 a b) k then none else comb f (look a k) (look b k) := by
 unfold topG
 rw [look_filter (fun k => decide (¬ Dead blw (HasK (mergeG cmp f a b)) k)), look_merge ho f a b ha hb]
 have : Dead blw (HasK (mergeG cmp f a b)) k ↔ Dead blw (Or2 a b) k := by
  unfold Dead Or2
  simp only [merge_has ho]
 by_cases h : Dead blw (Or2 a b) k
 ·rw [if_pos h, if_neg (by simpa using this.2 h)]
 ·rw [if_neg h, if_pos (by simpa using fun h2 => h (this.1 h2))]
end
end
end Go.Proofs.YtciimaabeabkdaaGreatDoor
namespace Go.Proofs.YtciimaabeabkdaaGreatDoor
open Go Go.MV
section
theorem leq_of {s : Sch} {a b v : Val} (hs : isF 16 s = true) (ha : isVF s a = true) (hb : isVF s b = true) (h : bothF s a b = some v) : leqVF s a b = .ok (decide (v = b)) := leq_ok (join_ok_of hs ha hb h)
def num (a : Int) : Val := .mk a 0 [] [] []
theorem leq_num (a b : Int) : leqVF (.mk 1 []) (num a) (num b) = .ok (decide (a ≤ b)) := by
 unfold num
 rw [leq_of (by decide) (is_num a) (is_num b) (both_num a b)]
 congr 1
 rw [decide_eq_decide]
 simp
 omega
section
variable {a b : List Tk} (ha : Go.MV.Up a) (hb : Go.MV.Up b) (pa : Go.MV.Pos a) (pb : Go.MV.Pos b)
include ha hb pa pb
end
section
variable {a b : List Tk} (ka : isClockF a = true) (kb : isClockF b = true) (oa : ∀ t ∈ a, okTk t) (ob : ∀ t ∈ b, okTk t) (la : a.length ≤ 15) (lb : b.length ≤ 15)
include ka kb oa ob la lb
end
section
variable {a b : List Tk} {x y : Int} (ka : isClockF a = true) (kb : isClockF b = true) (oa : ∀ t ∈ a, okTk t) (ob : ∀ t ∈ b, okTk t)
include ka kb oa ob
end
def setV (A : List Bs) : Val := .mk 0 0 A [] []
end
def FitJ (l : List Tbl) (w : Option Val) (key : Bs) (v : Val) : Prop := ∀ t j, findP l key = some t → joinVF t.2.2 (getF l w key) v = .ok j → isOk t.2.2 j ∧ szM (encV j) ≤ 1500000 ∧ leqVF t.2.2 j (getF l w key) = .ok (decide (j = getF l w key))
theorem form1 {v : Val} (h : isVF (.mk 1 []) v = true) : ∃ a, v = num a := by
 obtain ⟨n, m, s, c, w⟩ := v
 rw [zY1 1] at h
 simp [bareF, numsK, textsK, clocksK, valuesK, Val.nv, Val.mv, Val.sv, Val.cv, Val.vv] at h
 obtain ⟨⟨h1, h2⟩, h3⟩ := h
 simp_all [num]
theorem num_iff {a b : Int} : num a = num b ↔ a = b := by simp [num]
theorem sz_num (a : Int) : szM (encV (num a)) = 6 := by simp [num, encV, encVs, szM, szMs]
theorem fit_num {l : List Tbl} {w : Option Val} {key : Bs} {v : Val} {a : Int} {n : Bs} {lv : Int} (hf : findP l key = some (n, lv, .mk 1 [])) (hG : getF l w key = num a) (oa : okV (num a)) (ov : okV v) : FitJ l w key v := by
 intro t j ht hj
 rw [hf] at ht
 injection ht with ht
 subst ht
 rw [hG] at hj ⊢
 cases hv : isVF (.mk 1 []) v with
 | false => rw [join_err_b hv] at hj; cases hj
 | true =>
  obtain ⟨b, rfl⟩ := form1 hv
  have h1 : joinVF (.mk 1 []) (num a) (num b) = .ok (num (max a b)) := join_num a b
  rw [h1] at hj
  injection hj with hj
  subst hj
  refine ⟨⟨is_num _, ?_⟩, ?_, ?_⟩
  ·simp [num, okV, okVs] at oa ov ⊢
   omega
  ·have := sz_num (max a b)
   omega
  ·rw [leq_num]
   congr 1
   rw [decide_eq_decide, num_iff]
   omega
section
def kM1 : Bs := [109, 49]
def kM2 : Bs := [109, 50]
def kS1 : Bs := [115, 49]
def tM : Tbl := ([109], 1, .mk 1 [])
def tS : Tbl := ([115], 1, .mk 3 [])
theorem find_m1 : findP tabs4 kM1 = some tM := by rfl
theorem find_s1 : findP tabs4 kS1 = some tS := by rfl
theorem find_x1 : findP tabs4 [120, 49] = none := by rfl
theorem bot3 : BottomF (.mk 3 []) = setV [] := by rfl
theorem right1 (a : Int) : (isF 16 (.mk 1 []) && isVF (.mk 1 []) (num a)) = true := by
 rw [show isF 16 (.mk 1 []) = true by decide, show isVF (.mk 1 []) (num a) = true from is_num a]
 rfl
theorem val_num_len (a : Int) (h : okV (num a)) : ¬ 4000 < (valB (.mk 1 []) (num a)).length := by
 have h1 := (valB_len 16 (.mk 1 []) (by decide) (num a) ⟨is_num a, h⟩).2
 rw [sz_num] at h1
 omega
theorem okN {a : Int} (h : 0 ≤ a ∧ a < 18446744073709551616) : okV (num a) := okV_num h
theorem joined_num {key : Bs} {w : Option Val} {n : Nat} {a b : Int} (hf : findP tabs4 key = some tM) (hw : getF tabs4 w key = num a) (hn : w = none → n < 24) (hj : okV (num (max a b))) : joinedF tabs4 w n key (num b) = (num (max a b), !decide (num (max a b) = num a), 0) := by
 rw [joined_ok (t := tM) (j := num (max a b)) hf (right1 b) (by rintro ⟨h1, _, h3⟩; have := hn h1; omega) (by rw [hw]; exact join_num a b), if_neg (show ¬ 4000 < (valB tM.2.2 _).length from val_num_len _ hj), hw]
theorem get_none {l : List Tbl} {key : Bs} {t : Tbl} (h : findP l key = some t) : getF l none key = BottomF t.2.2 := by
 unfold getF
 rw [h]
 rfl
theorem jm1 : joinedF tabs4 none 0 kM1 (num 3) = (num 3, true, 0) := by
 rw [joined_num (a := 0) find_m1 (by rw [get_none find_m1]; rfl) (by omega) (okN (by decide)), show (max 0 3 : Int) = 3 by decide]
 simp [num_iff]
theorem jm2 : joinedF tabs4 (some (num 3)) 1 kM1 (num 2) = (num 3, false, 0) := by
 rw [joined_num (a := 3) find_m1 rfl (by omega) (okN (by decide)), show (max 3 2 : Int) = 3 by decide]
 simp
theorem jm3 : joinedF tabs4 none 1 [120, 49] (num 2) = (num 2, false, 10) := joined_none find_x1
theorem jm4 : joinedF tabs4 none 1 kS1 (num 2) = (num 2, false, 14) := joined_type (t := tS) find_s1 (by
 rw [show isVF tS.2.2 (num 2) = false by show isVF (.mk 3 []) (num 2) = false; unfold num; rw [zY1 3]; rfl]
 exact Bool.and_false _)
theorem fit_none {l : List Tbl} {w : Option Val} {key : Bs} {v : Val} (hf : findP l key = none) : FitJ l w key v := fun t j ht => by
 rw [hf] at ht
 cases ht
theorem fit_type {l : List Tbl} {w : Option Val} {key : Bs} {v : Val} {t : Tbl} (hf : findP l key = some t) (h : isVF t.2.2 v = false) : FitJ l w key v := fun t2 j ht hj => by
 rw [hf] at ht
 injection ht with ht
 subst ht
 rw [join_err_b h] at hj
 cases hj
theorem sum3 : (sumV tabs4 kM1 (num 3) == 0) = false := by
 unfold sumV
 rw [find_m1]
 show (hashB (valB (.mk 1 []) (num 3)) == 0) = false
 rw [show valB (.mk 1 []) (num 3) = [3] by simp [valB, valBs, kindB, num, flatB, numB]]
 decide
section
variable {tid mid clk : Nat} {es : List ME} {l : List Tbl} {keys : List Bs} {key : Bs} {w : Option Val} {a b : Val} {more : Bool} {e : Int}
theorem hj0 (S : MS) (hS : S[tid]? = some (tbO0 l mid)) (hm : S[mid]? = some (.mp clk es)) (hl : mpLook (bs key) es = w.map encV) (ov : okV a) (ow : okV (getF l w key)) (hb : FitJ l w key a) (hr : joinedF l w 0 key a = (b, more, e)) (L : MS) :
  MCalls Tryz.prog 85 [.ref tid 0, .str (bs key), encV a] (S ++ L) fun v σ' => v = .tup [encV b, .bool more, encEr e] ∧ σ' = S ++ L := by
 have h := joined0_spec (S ++ L) tid mid clk es l key w a (zQ hS) (zQ hm) hl ov ow hb
 rw [hr] at h
 exact h
theorem hj1 (S : MS) (hS : S[tid]? = some (tbO l keys mid)) (hm : S[mid]? = some (.mp clk es)) (hl : mpLook (bs key) es = w.map encV) (ov : okV a) (ow : okV (getF l w key)) (hb : FitJ l w key a) (hr : joinedF l w keys.length key a = (b, more, e)) (L : MS) :
  MCalls Tryz.prog 85 [.ref tid 0, .str (bs key), encV a] (S ++ L) fun v σ' => v = .tup [encV b, .bool more, encEr e] ∧ σ' = S ++ L := by
 have h := joined_spec (S ++ L) tid mid clk es l keys key w a (zQ hS) (zQ hm) hl ov ow hb
 rw [hr] at h
 exact h
end
theorem wOps_to {P : Program} {rd : Option Nat} {rest : List Oper} {ops : Array Oper} {env : Env} {σ : MS} {W : Env → MS → Prop} (σ' : MS) (e : σ = σ') (h : wOps P rd ops W rest env σ') : wOps P rd ops W rest env σ := e ▸ h
theorem own_get0 {S L : MS} {o : MObj} (h : L[0]? = some o) : (S ++ L)[S.length]? = some o := (getElem?_own S L 0).trans h
theorem _root_.zM2 : type_of% @own_get0 := @own_get0
theorem own_set0 {S L : MS} {o p : MObj} : (S ++ o :: L).set S.length p = S ++ p :: L := zX4
def esM : List ME := [(bs kM1, encV (num 3), 0)]
theorem look_m1 : mpLook (bs kM1) esM = some (encV (num 3)) := by simp [mpLook, esM]
theorem look_ne {k : Bs} (h : k ≠ kM1) : mpLook (bs k) esM = none := by
 have : ¬ bs kM1 = bs k := fun e => h (by
  unfold bs at e
  injection e with e
  exact (List.toArray_inj e).symm)
 simp [mpLook, esM, this]
theorem known13_spec (S : MS) : MCalls Tryz.prog 19 [] S fun v σ' => v = .bool true ∧ σ' = S := by
 refine zR Tryz.func19 V Tryz.ntmps19 (zA V) ?_
 refine zB <| qR V <| qA V V V <| qN <| zB <| qR V ?_
 refine qX V V V V co26 (zB1 _) ?_
 refine qX V V V V co25 (tblNew_spec _ tabs4 (by decide) right4) ?_
 rw [List.append_nil]
 refine qA V V V <| qN <| zB <| zB <| qR V <| qM V V V <| qO V <| op_ptrnil V Tryz.underlying62 V V V (.inl Vv) <| qN <| zK V (V) <| zX <| zB <| qR V <| qM V V V <| qO V <| zH3 (y := encV (num 3)) (zR1 V zN1 zm27 (.cons zX3 sz22 V V (zA V) .nil) (by kernel_rfl) Vv) (.agg (.cons (.refl _) (.cons (.refl _) (.cons (.nil 1) (.cons (.nil 1) (.cons (.nil 5) .nil)))))) ?_
 refine qX V V V V co28 (putNew_spec _ (S.length + 1) kM1 (num 3) (num 3) (hj0 (key := kM1) _ (show _ = some (tbO0 tabs4 S.length) by rw [getElem?_own]; rfl) own_at0 (w := none) V (okN (by decide)) (okN (a := 0) (by decide)) (fit_num (a := 0) find_m1 V (okN (by decide)) (okN (by decide))) jm1) S.length 0 [] tabs4 (by omega) (by rw [getElem?_own]; rfl) own_at0) ?_
 refine wOps_to (S ++ [.mp 1 esM, tbO tabs4 [kM1] S.length]) (by rw [set_own]; exact own_set0) ?_
 refine qM V V V <| qO V <| zS V V V <| qO V <| zS V V V <| qA V V V <| qA V V V <| qN <| zB <| qR V <| qM V V V <| qO V <| zH3 (y := encV (num 2)) (zR1 V zN1 zm27 (.cons zX3 sz22 V V (zA V) .nil) (by kernel_rfl) Vv) (.agg (.cons (.refl _) (.cons (.refl _) (.cons (.nil 1) (.cons (.nil 1) (.cons (.nil 5) .nil)))))) ?_
 refine qX V V V V co28 (putLess_spec _ (S.length + 1) kM1 (num 2) (num 3) (hj1 (key := kM1) _ (show _ = some (tbO tabs4 [kM1] S.length) by rw [getElem?_own]; rfl) (show _ = some (MObj.mp 1 esM) by exact zM2 V) (w := some (num 3)) look_m1 (okN (by decide)) (okN (a := 3) (by decide)) (fit_num (a := 3) find_m1 V (okN (by decide)) (okN (by decide))) jm2)) ?_
 refine qM V V V <| qO V <| zS V V V <| qO V <| zS V V V <| qA V V V <| qA V V V <| qN <| zB <| qR V <| qM V V V <| qO V <| zH3 (y := encV (num 2)) (zR1 V zN1 zm27 (.cons zX3 sz22 V V (zA V) .nil) (by kernel_rfl) Vv) (.agg (.cons (.refl _) (.cons (.refl _) (.cons (.nil 1) (.cons (.nil 1) (.cons (.nil 5) .nil)))))) ?_
 refine qX V V V V co28 (putErr_spec _ (S.length + 1) [120, 49] (num 2) (num 2) false 10 (hj1 (key := [120, 49]) _ (show _ = some (tbO tabs4 [kM1] S.length) by rw [getElem?_own]; rfl) (show _ = some (MObj.mp 1 esM) by exact zM2 V) (w := none) (look_ne (by decide)) (okN (by decide)) (okN (a := 0) (by decide)) (fit_none find_x1) jm3)) ?_
 refine qM V V V <| qO V <| zS V V V <| qO V <| zS V V V <| qA V V V <| qA V V V <| qN <| zB <| qR V <| qM V V V <| qO V <| zH3 (y := encV (num 2)) (zR1 V zN1 zm27 (.cons zX3 sz22 V V (zA V) .nil) (by kernel_rfl) Vv) (.agg (.cons (.refl _) (.cons (.refl _) (.cons (.nil 1) (.cons (.nil 1) (.cons (.nil 5) .nil)))))) ?_
 refine qX V V V V co28 (putErr_spec _ (S.length + 1) kS1 (num 2) (num 2) false 14 (hj1 (key := kS1) _ (show _ = some (tbO tabs4 [kM1] S.length) by rw [getElem?_own]; rfl) (show _ = some (MObj.mp 1 esM) by exact zM2 V) (w := none) (look_ne (by decide)) (okN (by decide)) (by simp [getF, find_s1, okV, okVs, tS, bot3, setV]) (fit_type (t := tS) find_s1 (by show isVF (.mk 3 []) (num 2) = false; unfold num; rw [zY1 3]; rfl)) jm4)) ?_
 refine qM V V V <| qO V <| zS V V V <| qO V <| zS V V V <| qA V V V <| qA V V V <| qN <| zB <| qR V ?_
 refine qX V V V V co26 (zB1 _) ?_
 refine qX V V V V co20 (zU5 tabs4 [115, 57] _) ?_
 refine qM V V V <| qO V <| zS V V V <| qO V <| zS V V V <| qO V <| zM0 V zm55 V V <| qO V <| zZ V V V V sz55 V V (zA V) V <| qA V V V <| qN <| zB <| qR V ?_
 refine qX V V V V co26 (zB1 _) ?_
 refine qX V V V V co20 (zU5 tabs4 [115] _) ?_
 refine qM V V V <| qO V <| zS V V V <| qO V <| zS V V V <| qO V <| zM0 V zm55 V V <| qO V <| zZ V V V V sz55 V V (zA V) V <| qA V V V <| qN <| zB <| qR V <| qM V V V <| qM V V V <| qM V V V <| qO V <| zV3 V zA0 V V (.inl Vv) <| qP V V V V <| qM V V V <| qM V V V <| qO V <| zF1 V V ?_
 refine qP V V V V <| qM V V V <| qM V V V <| qO V <| zV3 V zA0 V V (.inl Vv) <| qP V V V V <| qM V V V <| qM V V V <| qO V <| zK1 V V zD1 (by simp) ?_
 refine qX V V V V co18 (errIs_spec 10 _) ?_
 refine qP V V V V <| qM V V V <| qM V V V <| qO V <| zK1 V V zD1 (by simp) ?_
 refine qX V V V V co18 (errIs_spec 14 _) ?_
 refine qP V V V V <| qM V V V <| qM V V V ?_
 refine qX V V V V co27 (tblGet_spec _ (S.length + 1) S.length 1 esM tabs4 _ kM1 (some (num 3)) (show _ = some (tbO tabs4 [kM1] S.length) by rw [getElem?_own]; rfl) (show _ = some (MObj.mp 1 esM) by exact zM2 V) look_m1) ?_
 refine qO V <| op_field V V zX3 ta22 V <| qC V V V V V <| qP V V V V <| qM V V V <| qM V V V <| qP V V V V <| qM V V V <| qF V V V fo55_0 <| qL V V V V ta9 V <| qO V <| zB3 V V V V <| qP V V V V <| qM V V V <| qM V V V <| qO V <| zF1 V V <| qP V V V V ?_
 refine qM V V V ?_
 refine qX V V V V co26 (zB1 _) ?_
 refine qX V V V V co22 (right_spec tabs4 _) ?_
 rw [right4]
 refine qP V V V V <| qM V V V ?_
 refine qX V V V V co22 ((right_spec [] _).sub (.cons (.nil 4) .nil)) ?_
 refine qO V <| zF1 V V <| qP V V V V <| qM V V V <| qM V V V ?_
 refine qX V V V V co31 (tableAll_spec _ (S.length + 1) S.length 1 esM tabs4 [(kM1, num 3)] (by decide) (fun e he => by simp at he; subst he; exact look_m1) (show _ = some (tbO tabs4 [kM1] S.length) by rw [getElem?_own]; rfl) (show _ = some (MObj.mp 1 esM) by exact zM2 V)) ?_
 refine qE V V Tryz.underlying28 V <| qC V V V V V <| qP V V V V <| qM V V V <| qM V V V ?_
 refine qX V V V V co32 (tblSum_spec _ (S.length + 1) S.length 1 esM tabs4 _ kM1 (show _ = some (tbO tabs4 [kM1] S.length) by rw [getElem?_own]; rfl) (show _ = some (MObj.mp 1 esM) by exact zM2 V) (num 3) look_m1 ⟨tM, find_m1, by decide, ⟨is_num 3, okN (by decide)⟩, by rw [sz_num]; decide⟩) ?_
 refine qC V V V V (show intCmp .neq (sumV tabs4 kM1 (num 3)) 0 = some true by show some (!(sumV tabs4 kM1 (num 3) == 0)) = _; rw [sum3]; rfl) ?_
 refine qP V V V V <| qM V V V <| qM V V V ?_
 refine qX V V V V co32 (tblSum0_spec _ (S.length + 1) S.length 1 esM tabs4 _ kM2 (show _ = some (tbO tabs4 [kM1] S.length) by rw [getElem?_own]; rfl) (show _ = some (MObj.mp 1 esM) by exact zM2 V) (look_ne (by decide))) ?_
 refine qC V V V V V <| qP V V V V <| qA V V V <| qN <| zH ?_
 exact zT (.inr V) Tryz.results19 V (.of_eq (V)) (.bool _) Vv
end
def kyB (k : Nat) : Bs := List.replicate k 109
def goodK (k : Nat) : Bool := decide (2 ≤ k) && decide (k ≤ 8)
def firstK (c : UInt8) : Bool := decide (c = 109) || decide (c = 115) || decide (c = 108) || decide (c = 99)
theorem kyB_len (k : Nat) : (kyB k).length = k := List.length_replicate ..
theorem _root_.zE3 : type_of% @kyB_len := @kyB_len
theorem plain_kyB (k : Nat) : plainS (kyB k) = true := by
 unfold plainS kyB
 rw [List.all_eq_true]
 intro x hx
 rw [List.eq_of_mem_replicate hx]
 decide
theorem plain_set {l : Bs} (h : plainS l = true) {j : Nat} (hj : j < l.length) (c : UInt8) : plainS (l.set j c) = plainC c := by
 unfold plainS at *
 rw [List.all_eq_true] at h
 cases hc : plainC c with
 | true =>
  rw [List.all_eq_true]
  intro x hx
  rcases List.mem_or_eq_of_mem_set hx with hx | rfl
  ·exact h x hx
  ·exact hc
 | false =>
  rw [List.all_eq_false]
  exact ⟨c, List.mem_set hj c, by rw [hc]; decide⟩
theorem find_first (c : UInt8) (r : Bs) : (tabs4.find? (fun t => decide (t.1 = (c :: r).take 1))).isSome = firstK c := by
 rw [List.isSome_find?]
 simp only [tabs4, List.any_cons, List.any_nil, List.take_succ_cons, List.take_zero, Bool.or_false, firstK, List.cons.injEq, and_true]
 simp only [eq_comm (b := c), Bool.or_assoc]
theorem keys_a (k : Nat) : (findP tabs4 (kyB k)).isSome = goodK k := by
 unfold findP goodK
 rw [zE3, plain_kyB]
 by_cases h : k < 2 ∨ 8 < k
 ·rw [if_pos (by omega)]
  symm
  simp
  omega
 ·rw [if_neg (by simp; omega)]
  obtain ⟨q, rfl⟩ : ∃ q, k = q + 1 := ⟨k - 1, by omega⟩
  rw [show kyB (q + 1) = 109 :: kyB q from rfl, find_first]
  simp [firstK]
  omega
theorem keys_c {k j : Nat} (c : UInt8) (hj : j < k) : (findP tabs4 ((kyB k).set j c)).isSome = (goodK k && plainC c && (decide (0 < j) || firstK c)) := by
 unfold findP goodK
 rw [List.length_set, zE3, plain_set (plain_kyB k) (by rw [zE3]; exact hj)]
 by_cases h : k < 2 ∨ 8 < k
 ·rw [if_pos (by omega), show (decide (2 ≤ k) && decide (k ≤ 8)) = false by simp; omega]
  rfl
 ·rw [show (decide (2 ≤ k) && decide (k ≤ 8)) = true by simp; omega]
  cases hc : plainC c with
  | false => rw [if_pos (by simp)]; rfl
  | true =>
   rw [if_neg (by simp; omega)]
   obtain ⟨q, rfl⟩ : ∃ q, k = q + 1 := ⟨k - 1, by omega⟩
   rw [show kyB (q + 1) = 109 :: kyB q from rfl]
   cases j with
   | zero => rw [List.set_cons_zero, find_first]; simp
   | succ j => rw [List.set_cons_succ, find_first]; simp [firstK]
end Go.Proofs.YtciimaabeabkdaaGreatDoor
