/-
  Texts on which the proof of HeatCounts leans: part 2.
-/
import Derived.Test.YtplclefbiimnbaaHeatCountsA
import Derived.Laws.StructEq
import Derived.Laws.BytesString
import Derived.Laws.MakeOwn
import Derived.Laws.IdiomStrings
import Derived.Maps.RangeRun
import Derived.MapKept
import Derived.WalkKit
import Derived.Deep.LoopGhost
import Derived.Ground.NamesProg
import Derived.Ground.Names2Prog
import Derived.Shelf.Lay
import Derived.Shelf.Slices.In.Clone
import Derived.Sort.OwnSorted
import Derived.Sort.Grow
import Derived.Sort.EveryDepth
import Derived.Lib.OwnBridge
import Derived.OwnWalkIn
import Derived.TacticsInMore
import Derived.RegionIn
import Derived.LoopNIn
import Derived.LoopIn
import Derived.Sort.LoopGhostIn
import Derived.Sort.CutIn
import Derived.Sort.QuietIn
import Derived.Shelf.RegionOpen
import Derived.Shelf.AbstractIn
import Derived.Deep.Slices
import Derived.ChangeSame
import Derived.ProofKit
import Derived.OpenShut
import Derived.ChangeOld
import Derived.SizedLaws
import Derived.Carry
set_option linter.unusedVariables false
set_option linter.unusedSimpArgs false
set_option maxRecDepth 20000
set_option maxHeartbeats 8000000
namespace Go.MV
open Go Go.RowKit
section
section
variable {P : Program} {rd : Option Nat} {o : Oper} {env : Env} {σ : MS} {K : MV → MS → Prop}
theorem op_rem {t t' : TypeId} {x y : Operand} {k : IntKind} {m n r : Int} (ho : o.op = .binOp .rem t x y t') (hx : evo env x = some (.int k m)) (hy : evo env y = some (.int k n)) (hn : n ≠ 0) (hr : m.tmod n = r) (h : K (.int k r) σ) : OpWp P rd o env σ K := by
 refine op_bin ho hx hy (fun _ _ _ h => h.inv_int) (fun _ _ _ h => h.inv_int) (vz := .int k r) (fun w => ?_) V h
 subst hr
 simp [eqGuard, binOp, Op.intDiv, hn]
theorem op_shr {t t' : TypeId} {x y : Operand} {k k' : IntKind} {m n r : Int} (ho : o.op = .binOp .shr t x y t') (hx : evo env x = some (.int k m)) (hy : evo env y = some (.int k' n)) (hn : 0 ≤ n) (hr : m.fdiv (2 ^ min n.toNat k.bits) = r) (h : K (.int k r) σ) : OpWp P rd o env σ K := by
 refine op_bin ho hx hy (fun _ _ _ h => h.inv_int) (fun _ _ _ h => h.inv_int) (vz := .int k r) (fun w => ?_) V h
 subst hr
 have : ¬ n < 0 := by omega
 simp [eqGuard, binOp, Op.shift, this]
theorem op_convInt {t t' : TypeId} {x : Operand} {k k' : IntKind} {n r : Int} {d : TypeDesc} (ho : o.op = .convert t t' x) (hs : P.underlying t = some d) (ht : P.underlying t' = some (.int k)) (hx : evo env x = some (.int k' n)) (hr : k.wrap n = r) (h : K (.int k r) σ) : OpWp P rd o env σ K := by
 subst hr
 refine OpWp.of_run (by simp [ho]) fun g w a hr hop => ⟨.int k (k.wrap n), w, ?_, .same h hr (.int _ _)⟩
 have hv := (hop x (by simp [ho, Op.operands]) _ hx).inv_int
 simp [execOp, ho, convert, run_underlying hs, run_underlying ht, hv, Conv.intToInt]
def MV.isPtr : MV → Bool
 | .ref _ _ | .sptr _ | .orf _ _ _ => true
 | _ => false
theorem ptr_some {g : Gh} {w : World} {m : MV} {v : Value} (h : Rd g w m v) (hm : m.isPtr = true) : ∃ a, v = .pointer (some a) := by
 cases h <;> first | (cases hm; done) | exact ⟨_, rfl⟩
theorem op_ptrnil {b : BinOp} {r : Bool} {t e t' : TypeId} {x y : Operand} {m : MV} (ho : o.op = .binOp b t x y t') (hu : P.underlying t = some (.pointer e)) (hx : evo env x = some m) (hm : m.isPtr = true) (hy : evo env y = some .ptr0) (hb : b = .eql ∧ r = false ∨ b = .neq ∧ r = true) (h : K (.bool r) σ) : OpWp P rd o env σ K := by
 refine OpWp.of_run (by rcases hb with ⟨rfl, rfl⟩ | Vv <;> simp [ho]) fun g w a hr hop => ?_
 obtain ⟨ad, e1⟩ := ptr_some (hop x (by simp [ho, Op.operands]) _ hx) hm
 have e2 := (hop y (by simp [ho, Op.operands]) _ hy).inv_ptr0
 refine ⟨.bool r, w, ?_, .same h hr (.bool _)⟩
 have h9 : ∀ d : Nat, (Op.equalIn (d + 1) t (.pointer (some ad)) (.pointer none)).run P w = .ok false w := fun d => by simp [Op.equalIn, run_underlying hu]
 rcases hb with ⟨rfl, rfl⟩ | ⟨rfl, rfl⟩ <;> (simp only [execOp, ho, e1, e2, Sem.run_bind, Sem.run_pure]; simp [eqGuard, binOp, Op.equal, Op.maxDepth, h9 9999])
theorem wadd {a b c : Nat} (h : a + b = c) (hc : c < 9223372036854775808) : intArith .add .i64 (a : Int) (b : Int) = some (c : Int) := by
 simp only [intArith]
 rw [wrap_i64 (by omega)]
 congr 1
 omega
end
end
section
section
variable {P : Program} {rd : Option Nat} {N n : Nat} {Q : Exit → Env → MS → Prop} {env : Env} {S L : MS} {c : Code}
theorem EnvSub.app {env A B : Env} (h : EnvSub env A) (k : EnvSub env B) : EnvSub env (A ++ B) := by
 induction h with
 | nil => exact k
 | cons h1 h2 _ ih => exact .cons h1 h2 ih
theorem EnvTo.app {n : Nat} {env E0 A B : Env} (h : EnvTo n env E0 A) (k : EnvTo n env E0 B) : EnvTo n env E0 (A ++ B) := by
 induction h with
 | nil => exact k
 | old h1 h2 _ ih => exact .old h1 h2 ih
 | new h1 h2 h3 _ ih => exact .new h1 h2 h3 ih
theorem mwp_loopK {α : Type} {L0 : MS} (K : Env) (E : α → Env) (L : α → MS) (I : α → Prop) (m : α → Nat) (x₀ : α) (hK : EnvSub env K) (hE : EnvSub env (E x₀)) (h₀ : I x₀) (hL : L0 = L x₀)
  (round : ∀ x, I x → mwp P rd N n c (ThenM (fun env' σ' => ∃ y, m y < m x ∧ I y ∧ σ' = S ++ L y ∧ EnvSub env' K ∧ EnvSub env' (E y)) Q) (K ++ E x) (S ++ L x)) : mwp P rd N n (.loop c) Q env (S ++ L0) := by
 refine mwp_loop0 (fun x => K ++ E x) L I m x₀ h₀ hL (hK.app hE) fun x hx => mwp_mono (round x hx) fun e env' σ' h => ?_
 cases e with
 | normal =>
  obtain ⟨y, h1, h2, h3, h4, h5⟩ := h
  exact ⟨y, h1, h2, h3, h4.app h5⟩
 | _ => exact h
theorem _root_.zD1 : type_of% @mwp_loopK := @mwp_loopK
end
theorem wOps_case {P : Program} {rd : Option Nat} {ops : Array Oper} {Q : Env → MS → Prop} {rest : List Oper} {t : Nat} {e : Bool} {env : Env} {σ : MS} (hT : e = true → wOps P rd ops Q rest ((t, .bool true) :: env) σ) (hF : e = false → wOps P rd ops Q rest ((t, .bool false) :: env) σ) : wOps P rd ops Q rest (putd (some t) (.bool e) env) σ := by
 cases e
 ·exact hF rfl
 ·exact hT rfl
theorem _root_.zE1 : type_of% @wOps_case := @wOps_case
theorem dOps_case {P : Program} {rd : Option Nat} {ops : Array Oper} {eff : List Nat} {Ss : List MS} {Q : Env → Prop} {rest : List Oper} {i t : Nat} {e : Bool} {env : Env} (hT : e = true → dOps P rd ops eff Ss Q rest i ((t, .bool true) :: env)) (hF : e = false → dOps P rd ops eff Ss Q rest i ((t, .bool false) :: env)) : dOps P rd ops eff Ss Q rest i (putd (some t) (.bool e) env) := by
 cases e
 ·exact hF rfl
 ·exact hT rfl
theorem _root_.zF1 : type_of% @dOps_case := @dOps_case
theorem cl_flat {α : Type} {en : α → MV} {n : Nat} {l : List α} (h : ∀ a ∈ l, Cl n (en a)) (hc : ∀ a, en a = .agg (en a).cells ∨ [en a] = (en a).cells) : ∀ x ∈ flat (l.map en), Cl n x := by
 intro x hx
 obtain ⟨y, hy, hx⟩ := List.mem_flatMap.1 hx
 obtain ⟨a, ha, rfl⟩ := List.mem_map.1 hy
 rcases hc a with e | e
 ·have := h a ha
  rw [e] at this
  cases this with
  | agg _ h => exact h x hx
 ·rw [← e] at hx
  simp at hx
  subst hx
  exact h a ha
theorem cl_lst {α : Type} {en : α → MV} {n sz : Nat} {l : List α} (h : ∀ a, Cl n (en a)) (hc : ∀ a, en a = .agg (en a).cells ∨ [en a] = (en a).cells) : Cl n (.lst none sz (l.map en)) := .lst none sz _ (fun t ht => by cases ht) (cl_flat (fun a _ => h a) hc)
theorem cl_lstT {α : Type} {en : α → MV} {n sz t : Nat} {l : List α} (ht : t < n) (h : ∀ a, Cl n (en a)) (hc : ∀ a, en a = .agg (en a).cells ∨ [en a] = (en a).cells) : Cl n (.lst (some t) sz (l.map en)) := .lst _ sz _ (fun s hs => by injection hs with hs; omega) (cl_flat (fun a _ => h a) hc)
theorem _root_.zL : type_of% @List.getElem?_map := @List.getElem?_map
theorem get_map {α : Type} {en : α → MV} {l : List α} {i : Nat} {a : α} (h : l[i]? = some a) : (l.map en)[i]? = some (en a) := by rw [zL, h]; rfl
theorem _root_.zF0 : type_of% @get_map := @get_map
end
abbrev Tk := Int × Int
def ofF : List Tk → Int → Int
 | [], _ => 0
 | t :: c, w => if t.1 = w then t.2 else ofF c w
def Up (c : List Tk) : Prop := c.Pairwise fun x y => x.1 < y.1
theorem of_mem {c : List Tk} (hs : Up c) {t : Tk} (h : t ∈ c) : ofF c t.1 = t.2 := by
 induction c with
 | nil => cases h
 | cons s c ih =>
  have hs' := List.pairwise_cons.1 hs
  rcases List.mem_cons.1 h with rfl | h
  ·rw [ofF, if_pos rfl]
  ·have := hs'.1 t h
   rw [ofF, if_neg (by omega)]
   exact ih hs'.2 h
section
section
variable {P : Program} {rd : Option Nat} {o : Oper} {env : Env} {σ S L : MS} {K : MV → MS → Prop}
theorem op_nilCheck {x : Operand} {m : MV} (ho : o.op = .nilCheck x) (hx : evo env x = some m) (hm : m.isPtr = true) (h : K m σ) : OpWp P rd o env σ K := by
 refine OpWp.of_run (by simp [ho]) fun g w a hr hop => ?_
 have hv := hop x (by simp [ho, Op.operands]) _ hx
 obtain ⟨ad, e⟩ := ptr_some hv hm
 refine ⟨_, w, ?_, .same h hr hv⟩
 simp [execOp, ho, e, Instr.sureAddr]
theorem _root_.zD0 : type_of% @op_nilCheck := @op_nilCheck
end
section
variable {P : Program} {fn : Func} {S S' L : MS} {R : MV → MS → Prop} {env : Env}
theorem ret_tmpS {e : Exit} {t : Nat} {x y : MV} (he : e = .normal ∨ e = .ret) (hres : fn.results = #[.tmp t]) (hx : get env t = some x) (hs : Sub x y) (hc : Cl S'.length y) (hl : S.length ≤ S'.length) (hS : ClS S') (hR : R y S') : BodyQ P fn S R e env (S' ++ L) := by
 refine ⟨he, [x], y, S', L, ?_, hs, hc, rfl, hl, .inr hS, hR⟩
 rw [hres]
 exact .tmp hx .nil
theorem ret_noneS {e : Exit} (he : e = .normal ∨ e = .ret) (hres : fn.results = #[]) (hl : S.length ≤ S'.length) (hS : ClS S') (hR : R (.tup []) S') : BodyQ P fn S R e env (S' ++ L) := by
 refine ⟨he, [], .tup [], S', L, ?_, .refl _, .tup _ (by simp), rfl, hl, .inr hS, hR⟩
 rw [hres]
 exact .nil
end
theorem ClS.set {S : MS} (h : ClS S) {id : Nat} {o : MObj} (ho : o.cl S.length) : ClS (S.set id o) := by
 intro i p hp
 rw [List.length_set]
 rw [List.getElem?_set] at hp
 split at hp
 ·split at hp
  ·injection hp with hp
   subst hp
   exact ho
  ·cases hp
 ·exact h i p hp
theorem get_app {S L : MS} {id : Nat} {o : MObj} (h : S[id]? = some o) : (S ++ L)[id]? = some o := by
 rw [List.getElem?_append_left (zB.1 h).1]
 exact h
theorem set_app {S L : MS} {id : Nat} {o p : MObj} (h : S[id]? = some o) : (S ++ L).set id p = S.set id p ++ L := List.set_append_left _ _ (zB.1 h).1
theorem set_set {S : MS} {id : Nat} {o p : MObj} : (S.set id o).set id p = S.set id p := by simp
end
section
def YStep (P : Program) (id : Nat) (xs : List MV) (S : MS) (b : Bool) (S' : MS) : Prop :=
 ∀ (L : MS) (rd : Option Nat) (o : Oper) (env : Env) (f : Operand) (args : Array Operand) (ts : Array TypeId), o.op = .call { callee := .value f, args := args, argTypes := ts } → evo env f = some (.yld id) → evos env args.toList = some xs →
  OpWp P rd o env (S ++ L) (fun v σ' => v = .bool b ∧ σ' = S' ++ L)
def IterOk (P : Program) (k : FuncId) (first caps : List MV) (ys : List (List MV)) (ok : MS → Prop) : Prop :=
 ∀ (id : Nat) (T : Nat → MS) (m : Nat), (∀ j, ok (T j)) → (∀ j y, j < m → ys[j]? = some y → YStep P id y (T j) true (T (j + 1))) →
  (m = ys.length → MCalls P k (first ++ [.yld id] ++ caps) (T 0) fun _ σ' => σ' = T m) ∧
  (∀ y, ys[m]? = some y → YStep P id y (T m) false (T (m + 1)) → MCalls P k (first ++ [.yld id] ++ caps) (T 0) fun _ σ' => σ' = T (m + 1))
theorem get_mid {A B : MS} {o : MObj} : (A ++ o :: B)[A.length]? = some o := by
 rw [List.getElem?_append_right (Nat.le_refl _), Nat.sub_self]; rfl
theorem set_mid {A B : MS} {o p : MObj} : (A ++ o :: B).set A.length p = A ++ p :: B := by
 rw [List.set_append_right _ _ (Nat.le_refl _), Nat.sub_self]; rfl
section
variable {P : Program} {rd : Option Nat} {N n : Nat} {Q : Exit → Env → MS → Prop} {env : Env} {S : MS}
end
end
section
theorem Rel.recell {g : Gh} {σ : MS} {w : World} (h : Rel g σ w) {id : Nat} {l l' : List MV} (hσ : σ[id]? = some (.cells l)) (hl : ∀ us, Rds g w l us → Rds g w l' us) : Rel g (σ.set id (.cells l')) w := by
 have hlt := (zB.1 hσ).1
 refine ⟨h.below, h.base, h.fresh, fun i hi => h.bkn i (by simpa using hi), fun t n ht => h.lgn t n (by simpa using ht), ?_⟩
 obtain ⟨own, ho⟩ := h.ex
 refine ⟨own, ⟨fun i o hi => ?_, ho.inj, fun i b hi => by have := ho.lt i b hi; exact ⟨by simpa using this.1, this.2⟩⟩⟩
 rw [List.getElem?_set] at hi
 split at hi
 ·rename_i e
  subst e
  injection hi with hi
  subst hi
  obtain ⟨b, us, ty, h1, h2, h3, h4, h5⟩ := ho.obj _ _ hσ
  exact ⟨b, us, ty, h1, h2, h3, h4, hl us h5⟩
 ·exact ho.obj i o hi
section
variable {P : Program} {rd : Option Nat} {N n : Nat} {c : Code} {Q : Exit → Env → MS → Prop} {env : Env} {S L : MS}
theorem mwp_cellrow {L' : MS} (k ty sz : Nat) {m : Nat} (hk : L[k]? = some (.cells [.lst0])) (hN : N ≤ S.length) (hm : L.length = m) (hL : L.set k (.cells [.lst (some (S.length + m)) sz []]) ++ [.row ty sz 0] = L') (h : mwp P rd N n c Q env (S ++ L')) : mwp P rd N n c Q env (S ++ L) := by
 subst hm hL
 refine mwp_ghost (fun g w tmps hr he => ?_) h
 obtain ⟨r1, l1, d1⟩ := tok_new hr ty sz
 have hlen : (S ++ L).length = S.length + L.length := zJ
 refine ⟨_, ?_, he.mono l1, l1.toN N, fun F hF => hF.mono (l1.toN N)⟩
 have hlt := (zB.1 hk).1
 have e : S ++ (L.set k (.cells [.lst (some (S.length + L.length)) sz []]) ++ [.row ty sz 0]) = ((S ++ L) ++ [MObj.row ty sz 0]).set (S.length + k) (.cells [.lst (some (S.length + L.length)) sz []]) := by
  rw [zK, set_own, List.set_append_left _ _ hlt]
 rw [e]
 refine r1.recell (l := [.lst0]) (by rw [zK, getElem?_own, List.getElem?_append_left hlt]; exact hk) fun us hus => ?_
 obtain ⟨u, us', rfl, h1, h2⟩ := hus.uncons
 refine .cons ?_ ?_
 ·rw [h1.inv_lst0, ← hlen]; exact d1
 ·cases us' with
  | nil => exact .nil _ _
  | cons _ _ => have := h2.1; simp at this
theorem YStep.at0 {id : Nat} {xs : List MV} {S S' : MS} {b : Bool} (h : YStep P id xs S b S') {o : Oper} {f : Operand} {args : Array Operand} {ts : Array TypeId} (ho : o.op = .call { callee := .value f, args := args, argTypes := ts }) (hf : evo env f = some (.yld id)) (hx : evos env args.toList = some xs) : OpWp P rd o env S (fun v σ' => v = .bool b ∧ σ' = S') := by
 have := h [] rd o env f args ts ho hf hx
 simpa using this
end
section
variable {P : Program} {fn : Func} {S S' L : MS} {R : MV → MS → Prop} {env : Env}
theorem ret_noneT {e : Exit} (he : e = .normal ∨ e = .ret) (hres : fn.results = #[]) (hl : S.length ≤ S'.length) (hS : ClS S') (hR : R (.tup []) S') : BodyQ P fn S R e env S' := by
 have := ret_noneS (P := P) (env := env) (L := []) he hres hl hS hR
 rwa [List.append_nil] at this
theorem _root_.zI0 : type_of% @ret_noneT := @ret_noneT
theorem ret_tmpT {e : Exit} {t : Nat} {x y : MV} (he : e = .normal ∨ e = .ret) (hres : fn.results = #[.tmp t]) (hx : get env t = some x) (hs : Sub x y) (hc : Cl S'.length y) (hl : S.length ≤ S'.length) (hS : ClS S') (hR : R y S') : BodyQ P fn S R e env S' := by
 have := ret_tmpS (P := P) (env := env) (L := []) he hres hx hs hc hl hS hR
 rwa [List.append_nil] at this
end
section
variable {P : Program} {rd : Option Nat} {o : Oper} {env : Env} {S L L' R : MS} {K : MV → MS → Prop}
theorem get_mid_ {k : Nat} {ob : MObj} (h : L[k]? = some ob) : ((S ++ L) ++ R)[S.length + k]? = some ob := by
 rw [zK, getElem?_own]
 exact get_app h
theorem set_mid_ {k : Nat} {ob p : MObj} (h : L[k]? = some ob) : ((S ++ L) ++ R).set (S.length + k) p = (S ++ L.set k p) ++ R := by
 rw [zK, set_own, set_app h, zK]
theorem op_load_mid {t : TypeId} {x : Operand} {k off : Nat} {l : List MV} {ta : Option Nat} {m : MV} (ho : o.op = .load t x) (hx : evo env x = some (.ref (S.length + k) off)) (hσ : L[k]? = some (.cells l)) (ht : tyAgg P t = some ta) (hm : loadMV ta l off = some m) (h : K m ((S ++ L) ++ R)) : OpWp P rd o env ((S ++ L) ++ R) K :=
 zG ho hx (get_mid_ hσ) ht hm h
theorem op_store_mid {t : TypeId} {x y : Operand} {i off : Nat} {l : List MV} {m : MV} {k : Nat} (ho : o.op = .store t x y) (hx : evo env x = some (.ref (S.length + i) off)) (hy : evo env y = some m) (hσ : L[i]? = some (.cells l)) (hk : szOf P t = some k) (hm : m.cells.length = k)
  (h1 : m.cells.all MV.one = true) (hle : off + k ≤ l.length) (hL : L.set i (.cells (setMany l off m.cells)) = L') (h : K (.tup []) ((S ++ L') ++ R)) : OpWp P rd o env ((S ++ L) ++ R) K :=
 op_store ho hx hy (get_mid_ hσ) hk hm h1 hle (by rw [set_mid_ hσ, hL]; exact h)
theorem op_append_mid {t e sz bytes k n : Nat} {x y : Operand} {tok : Option Nat} {xs ys : List MV} (ho : o.op = .call { callee := .builtin .append, args := #[x, y], argTypes := #[t, t] }) (hu : P.underlying t = some (.slice e)) (he : elemOk P e sz bytes = true)
  (hx : evo env x = some (.lst (some (S.length + k)) sz xs)) (hy : evo env y = some (.lst tok sz ys)) (hσ : L[k]? = some (.row e sz n)) (hn : xs.length = n) (hb : (n + ys.length) * bytes ≤ 140737488355328) (hml : n + ys.length ≤ 4611686018427387904)
  (hL : L.set k (.row e sz (n + ys.length)) = L') (hK : K (.lst (some (S.length + k)) sz (xs ++ ys)) ((S ++ L') ++ R)) : OpWp P rd o env ((S ++ L) ++ R) K :=
 op_append ho hu he hx hy (get_mid_ hσ) hn hb hml (by rw [set_mid_ hσ, hL]; exact hK)
end
end
def encX (s : Bs) : MV := .str (bs s)
theorem cl_encX (n : Nat) (s : Bs) : Cl n (encX s) := .str _
theorem encX_one (s : Bs) : encX s = .agg (encX s).cells ∨ [encX s] = (encX s).cells := .inr rfl
theorem cl_texts (n : Nat) (l : List Bs) : Cl n (.lst none 1 (l.map encX)) := cl_lst (cl_encX n) encX_one
theorem _root_.zZ0 : type_of% @cl_texts := @cl_texts
inductive Val where
 | mk (n m : Int) (s : List Bs) (c : List (List Tk)) (v : List Val)
 deriving Inhabited
noncomputable instance : DecidableEq Val := fun a b => Classical.propDecidable (a = b)
section
def exCode : Exit → Code
 | .ret => .ret
 | .exit x => .exit x
 | _ => .skip
theorem first_bad (p : Nat → Bool) : ∀ n : Nat, (∀ j, j < n → p j = true) ∨ ∃ m, m < n ∧ p m = false ∧ ∀ j, j < m → p j = true
 | 0 => .inl fun j h => by omega
 | n + 1 => by
  rcases first_bad p n with hall | ⟨m, h1, h2, h3⟩
  ·cases h : p n with
   | false => exact .inr ⟨n, by omega, h, hall⟩
   | true =>
    refine .inl fun j hj => ?_
    rcases Nat.lt_or_ge j n with h' | h'
    ·exact hall j h'
    ·have : j = n := by omega
     subst this
     exact h
  ·exact .inr ⟨m, by omega, h2, h3⟩
theorem iterOk_of {P : Program} {k : FuncId} {first caps : List MV} {ys : List (List MV)} {ok : MS → Prop} (h : ∀ (id : Nat) (T : Nat → MS) (m : Nat), (∀ j, ok (T j)) → m ≤ ys.length → (∀ j y, j < m → ys[j]? = some y → YStep P id y (T j) true (T (j + 1))) → (∀ j y, j = m → ys[j]? = some y → YStep P id y (T j) false (T (j + 1))) →
  MCalls P k (first ++ [.yld id] ++ caps) (T 0) fun v σ' => v = .tup [] ∧ σ' = T (if m < ys.length then m + 1 else m)) : IterOk P k first caps ys ok := by
 intro id T m hok hyt
 refine ⟨fun hm => ?_, fun y hy hyf => ?_⟩
 ·refine (h id T m hok (by omega) hyt (fun j y hj hy => ?_)).mono ?_
  ·have := (zB.1 hy).1; omega
  ·rintro v σ' ⟨_, h⟩
   rw [h, if_neg (by omega)]
 ·have hm := (zB.1 hy).1
  refine (h id T m hok (by omega) hyt (fun j z hj hz => ?_)).mono ?_
  ·subst hj
   rw [hy] at hz
   injection hz with hz
   subst hz
   exact hyf
  ·rintro v σ' ⟨_, h⟩
   rw [h, if_pos hm]
section
variable {P : Program} {rd : Option Nat} {N n : Nat} {Q : Exit → Env → MS → Prop} {env : Env} {S : MS}
theorem evos_len {env : Env} : ∀ (l : List Operand) (ys : List MV), evos env l = some ys → l.length = ys.length := by
 intro l
 induction l with
 | nil => intro ys h; injection h with h; subst h; rfl
 | cons x l ih =>
  intro ys h
  simp only [evos] at h
  cases hx : evo env x with
  | none => rw [hx] at h; cases h
  | some m =>
   rw [hx] at h
   cases hl : evos env l with
   | none => simp only [hl] at h; cases h
   | some ms =>
    simp only [hl] at h
    injection h with h
    subst h
    simp [ih _ hl]
theorem cls_swap {A B B' C0 C' : MS} {s s' : LoopState} {q q' : Option Code} {ls : LS} {l : Nat} (h1 : B.length = l) (h2 : B'.length = l) (hB : ∀ o, o ∈ B' → ∀ n, (A ++ C0).length ≤ n → o.cl n) (hm : C0.length = l) (h : ClS ((A ++ B) ++ .loop s q ls :: C')) : ClS ((A ++ B') ++ .loop s' q' ls :: C') := by
 have hle : ((A ++ B') ++ MObj.loop s' q' ls :: C').length = ((A ++ B) ++ MObj.loop s q ls :: C').length := by simp [h1, h2]
 intro id o hid
 rw [hle]
 by_cases c1 : id < A.length
 ·refine h id o ?_
  rw [zK, List.getElem?_append_left c1] at hid ⊢
  exact hid
 ·by_cases c2 : id < (A ++ B').length
  ·rw [List.getElem?_append_left c2, List.getElem?_append_right (by omega)] at hid
   refine hB o (zE hid) _ ?_
   simp only [zJ, zO]
   omega
  ·by_cases c3 : id = (A ++ B').length
   ·subst c3
    rw [get_mid] at hid
    injection hid with hid
    subst hid
    have := h (A ++ B).length (.loop s q ls) get_mid
    exact this
   ·refine h id o ?_
    have hl : (A ++ B).length = (A ++ B').length := by simp [h1, h2]
    rw [List.getElem?_append_right (by omega)] at hid ⊢
    rw [hl]
    obtain ⟨d, hd⟩ : ∃ d, id - (A ++ B').length = d + 1 := ⟨id - (A ++ B').length - 1, by omega⟩
    rw [hd] at hid ⊢
    simpa using hid
theorem cls_loop {A : MS} {s : LoopState} {q : Option Code} {ps : Array Tmp} {assign body : Code} {env : Env} {n : Nat} (h : ClS A) (he : ∀ t x, get env t = some x → Cl A.length x) : ClS (A ++ [.loop s q ⟨ps, assign, body, env, n⟩]) := by
 intro id o hid
 by_cases c : id < A.length
 ·rw [List.getElem?_append_left c] at hid
  have := h id o hid
  cases o with
  | cells l => exact fun x hx => (this x hx).mono (by simp)
  | loop s p ls => exact fun t x hx => (this t x hx).mono (by simp)
  | row _ _ _ => exact trivial
  | mp _ es => exact fun e he => (this e he).mono (by simp)
  | mit m _ _ _ => exact Nat.lt_of_lt_of_le this (by simp)
  | pin _ _ => exact trivial
  | tcells _ l => exact fun x hx => (this x hx).mono (by simp)
  | orow _ _ _ l => exact fun x hx => (this x hx).mono (by simp)
  | fixed _ _ => exact trivial
  | gone => exact trivial
 ·rw [List.getElem?_append_right (by omega)] at hid
  obtain ⟨d, hd⟩ : ∃ d, id - A.length = d := ⟨_, rfl⟩
  rw [hd] at hid
  cases d with
  | zero =>
   simp at hid
   subst hid
   exact fun t x hx => (he t x hx).mono (by simp)
  | succ d => simp at hid
theorem IterOk.weak {P : Program} {k : FuncId} {first caps : List MV} {ys : List (List MV)} {ok ok' : MS → Prop} (h : IterOk P k first caps ys ok) (hw : ∀ σ, ok' σ → ok σ) : IterOk P k first caps ys ok' :=
 fun id T m hok hyt => h id T m (fun j => hw _ (hok j)) hyt
theorem mwp_rangeB {f : Operand} {ps : Array Tmp} {assign body : Code} {k : FuncId} {first caps : List MV} {ys : List (List MV)} {ok : MS → Prop} {L0 : MS} (ex : Exit) (hex : ex = .ret ∨ ∃ x, ex = .exit x) (p : Nat → Bool) (L Ls : Nat → MS) (hlen : ∀ j, (L j).length = (L 0).length) (hlens : ∀ j, (Ls j).length = (L 0).length) (hL0 : L0 = L 0)
  (hcl : ∀ j o, o ∈ L j → ∀ n, (S ++ L 0).length ≤ n → o.cl n) (hcls : ∀ j o, o ∈ Ls j → ∀ n, (S ++ L 0).length ≤ n → o.cl n)
  (hf : evo env f = some (.fn (.func k) first caps)) (hb : CallOk P k) (hrd : rd = none) (hN : N ≤ S.length)
  (hit : IterOk P k first caps ys (fun σ => ok σ ∧ ClS σ)) (hok : ∀ j, ok ((S ++ L j) ++ [.loop .ready none ⟨ps, assign, body, env, n⟩])) (hoks : ∀ j s q, ok ((S ++ Ls j) ++ [.loop s q ⟨ps, assign, body, env, n⟩])) (hpb : ps.toList.all (fun t => Nat.blt t n) = true) (hps : ∀ y ∈ ys, ps.size = y.length)
  (hround : ∀ j y, ys[j]? = some y → (∀ i, i < j → p i = true) → ∀ L' : MS, mwp P (some (S ++ L 0).length) ((S ++ L j).length + 1 + L'.length) n assign (fun e env1 σ1 => e = .normal ∧ ∃ J, σ1 = ((S ++ L j) ++ .loop .ready none ⟨ps, assign, body, env, n⟩ :: L') ++ J ∧
   mwp P (some (S ++ L 0).length) ((S ++ L j).length + 1 + L'.length) n body (fun e2 env2 σ2 =>
    (p j = true ∧ e2 = .normal ∧ ∃ junk, σ2 = ((S ++ L (j + 1)) ++ .loop .busy none ⟨ps, assign, body, env, n⟩ :: L') ++ junk) ∨
    (p j = false ∧ e2 = ex ∧ ∃ junk, σ2 = ((S ++ Ls j) ++ .loop .busy none ⟨ps, assign, body, env, n⟩ :: L') ++ junk)) env1 (((S ++ L j) ++ .loop .busy none ⟨ps, assign, body, env, n⟩ :: L') ++ J)) (bindPs ps.toList y env) ((S ++ L j) ++ .loop .ready none ⟨ps, assign, body, env, n⟩ :: L'))
  (hend : (∀ j, j < ys.length → p j = true) → Q .normal env ((S ++ L ys.length) ++ [.gone]))
  (hstop : ∀ j y, ys[j]? = some y → p j = false → Q ex env ((S ++ Ls j) ++ [.gone])) : mwp P rd N n (.rangeFunc f ps assign body) Q env (S ++ L0) := by
 subst hL0 hrd
 have hid : ∀ j, (S ++ L j).length = (S ++ L 0).length := fun j => by simp [hlen j]
 have hids : ∀ j, (S ++ Ls j).length = (S ++ L 0).length := fun j => by simp [hlens j]
 refine zB0 fun hce hcs => ?_
 have hc0 : ∀ s q, ClS ((S ++ L 0) ++ [.loop s q ⟨ps, assign, body, env, n⟩]) := fun s q => cls_loop hcs hce
 refine mwp_range hf hb (fun id h => by cases h) (by simp; omega) ?_
 have hstep : ∀ j y, ys[j]? = some y → (∀ i, i < j → p i = true) → ∀ (K : MV → MS → Prop) (L' : MS) (rd' : Option Nat) (o : Oper) (env' : Env) (f' : Operand) (args : Array Operand) (ts : Array TypeId), o.op = .call { callee := .value f', args := args, argTypes := ts } → evo env' f' = some (.yld (S ++ L 0).length) → evos env' args.toList = some y →
   (p j = true → K (.bool true) ((S ++ L (j + 1)) ++ .loop .ready none ⟨ps, assign, body, env, n⟩ :: L')) →
   (p j = false → K (.bool false) ((S ++ Ls j) ++ .loop .done (some (exCode ex)) ⟨ps, assign, body, env, n⟩ :: L')) →
   OpWp P rd' o env' ((S ++ L j) ++ .loop .ready none ⟨ps, assign, body, env, n⟩ :: L') K := by
  intro j y hy hbef K L' rd' o env' f' args ts ho hf' hargs hk1 hk2
  have hsz : args.size = y.length := by
   have := evos_len _ _ hargs
   simpa using this
  have hget : ((S ++ L j) ++ MObj.loop .ready none ⟨ps, assign, body, env, n⟩ :: L')[(S ++ L 0).length]? = some (.loop .ready none ⟨ps, assign, body, env, n⟩) := by
   rw [← hid j]; exact get_mid
  have hN' : ((S ++ L j) ++ MObj.loop .ready none ⟨ps, assign, body, env, n⟩ :: L').length = (S ++ L j).length + 1 + L'.length := by
   rw [zJ, zO]; omega
  refine op_yield ho hf' hargs hget (by rw [hsz]; exact hps y (zE hy)) hpb ?_
  rw [hN']
  refine zB0 fun _ hcl0 => ?_
  refine mwp_mono (hround j y hy hbef L') ?_
  rintro e env1 σ1 ⟨rfl, J, rfl, h⟩
  refine ⟨rfl, none, get_app hget, ?_⟩
  have hset : (((S ++ L j) ++ MObj.loop .ready none ⟨ps, assign, body, env, n⟩ :: L') ++ J).set (S ++ L 0).length (.loop .busy none ⟨ps, assign, body, env, n⟩) = ((S ++ L j) ++ .loop .busy none ⟨ps, assign, body, env, n⟩ :: L') ++ J := by
   rw [set_app hget, ← hid j]; exact congrArg (· ++ J) set_mid
  rw [hset]
  refine mwp_mono h ?_
  rintro e2 env2 σ2 (⟨hp, rfl, junk, rfl⟩ | ⟨hp, rfl, junk, rfl⟩)
  ·refine ⟨_, junk, none, ⟨ps, assign, body, env, n⟩, rfl, ?_, .inr (cls_swap (hlen j) (hlen (j + 1)) (hcl (j + 1)) (by simp) hcl0), ?_, ?_⟩
   ·have h1 := hid (j + 1)
    have h2 := hid j
    simp only [zJ, zO] at *
    omega
   ·rw [← hid (j + 1)]; exact get_mid
   ·show K (.bool true) _
    rw [← hid (j + 1), set_mid]
    exact hk1 hp
  ·refine ⟨_, junk, none, ⟨ps, assign, body, env, n⟩, rfl, ?_, .inr (cls_swap (hlen j) (hlens j) (hcls j) (by simp) hcl0), ?_, ?_⟩
   ·have h1 := hids j
    have h2 := hid j
    simp only [zJ, zO] at *
    omega
   ·rw [← hids j]; exact get_mid
   ·rcases hex with rfl | ⟨x, rfl⟩
    ·show K (.bool false) _
     rw [← hids j, set_mid]
     exact hk2 hp
    ·show K (.bool false) _
     rw [← hids j, set_mid]
     exact hk2 hp
 have hgo : ∀ m, (∀ j, j < m → p j = true) → ∀ (T : Nat → MS), (∀ j, j ≤ m → T j = (S ++ L j) ++ [.loop .ready none ⟨ps, assign, body, env, n⟩]) → ∀ j y, j < m → ys[j]? = some y → YStep P (S ++ L 0).length y (T j) true (T (j + 1)) := by
  intro m hm T hT j y hj hy L' rd' o env' f' args ts ho hf' hargs
  have e1 : ∀ i (X : MObj), ((S ++ L i) ++ [X]) ++ L' = (S ++ L i) ++ X :: L' := fun i X => by simp
  rw [hT j (by omega), hT (j + 1) (by omega), e1, e1]
  exact hstep j y hy (fun i hi => hm i (by omega)) _ L' rd' o env' f' args ts ho hf' hargs (fun _ => ⟨rfl, rfl⟩) (fun h => by rw [hm j hj] at h; cases h)
 rcases first_bad p ys.length with hall | ⟨m, hm, hp, hbef⟩
 ·refine ((hit (S ++ L 0).length (fun j => (S ++ L j) ++ [.loop .ready none ⟨ps, assign, body, env, n⟩]) ys.length (fun j => ⟨hok j, cls_swap (hlen 0) (hlen j) (hcl j) V (hc0 .ready none)⟩) (hgo ys.length hall _ (fun j _ => V))).1 V).mono ?_
  rintro v σ' rfl
  refine ⟨.ready, none, by rw [← hid ys.length]; exact get_mid, by simp, ?_⟩
  show Q .normal env _
  rw [← hid ys.length, set_mid]
  exact hend hall
 ·obtain ⟨y, hy⟩ : ∃ y, ys[m]? = some y := ⟨_, zA hm⟩
  let q : Code := exCode ex
  let T : Nat → MS := fun j => if j ≤ m then (S ++ L j) ++ [.loop .ready none ⟨ps, assign, body, env, n⟩] else (S ++ Ls m) ++ [.loop .done (some q) ⟨ps, assign, body, env, n⟩]
  have hT : ∀ j, j ≤ m → T j = (S ++ L j) ++ [.loop .ready none ⟨ps, assign, body, env, n⟩] := fun j hj => by simp [T, hj]
  have hT1 : T (m + 1) = (S ++ Ls m) ++ [.loop .done (some q) ⟨ps, assign, body, env, n⟩] := by simp [T]
  have h0 : T 0 = (S ++ L 0) ++ [.loop .ready none ⟨ps, assign, body, env, n⟩] := hT 0 (by omega)
  have hokT : ∀ j, ok (T j) ∧ ClS (T j) := fun j => by
   by_cases hj : j ≤ m
   ·rw [hT j hj]; exact ⟨hok j, cls_swap (hlen 0) (hlen j) (hcl j) rfl (hc0 .ready none)⟩
   ·simp only [T, if_neg hj]; exact ⟨hoks m _ _, cls_swap (hlen 0) (hlens m) (hcls m) rfl (hc0 .ready none)⟩
  have := (hit (S ++ L 0).length T m hokT (hgo m hbef T hT)).2 y hy (by
   intro L' rd' o env' f' args ts ho hf' hargs
   have e1 : ∀ (A : MS) (X : MObj), ((S ++ A) ++ [X]) ++ L' = (S ++ A) ++ X :: L' := fun i X => by simp
   rw [hT m (Nat.le_refl _), hT1, e1, e1]
   exact hstep m y hy hbef _ L' rd' o env' f' args ts ho hf' hargs (fun h => by rw [hp] at h; cases h) (fun _ => ⟨rfl, rfl⟩))
  rw [h0] at this
  refine this.mono ?_
  rintro v σ' rfl
  rw [hT1]
  refine ⟨.done, some q, by rw [← hids m]; exact get_mid, by simp, ?_⟩
  rw [← hids m, set_mid]
  rcases hex with rfl | ⟨x, rfl⟩
  ·exact hstop m y hy hp
  ·exact hstop m y hy hp
end
section
variable {P : Program} {rd : Option Nat} {o : Oper} {env : Env} {σ : MS} {K : MV → MS → Prop}
end
section
variable {P : Program} {rd : Option Nat} {o : Oper} {env : Env} {σ σ2 : MS} {K : MV → MS → Prop}
variable {N n : Nat} {Q : Exit → Env → MS → Prop}
end
end
end Go.MV
namespace Go.Proofs.Ytplclefbiimnbaa
open Go Go.MV
theorem drop_cons_get {α : Type} {l r : List α} {a : α} {j : Nat} (h : a :: r = l.drop j) : l[j]? = some a ∧ r = l.drop (j + 1) := by
 have h1 := congrArg (fun q => q[0]?) h
 have h2 := congrArg (List.drop 1) h
 simp only [List.getElem?_cons_zero, List.getElem?_drop, Nat.add_zero] at h1
 refine ⟨h1.symm, ?_⟩
 simpa [List.drop_drop] using h2
theorem _root_.zX : type_of% @drop_cons_get := @drop_cons_get
theorem drop_nil_len {α : Type} {l : List α} {j : Nat} (h : [] = l.drop j) : l.length ≤ j := by
 have := congrArg List.length h
 simp at this
 omega
def bothX : List Bs → List Bs → List Bs
 | [], [] => []
 | x :: a, [] => x :: bothX a []
 | [], y :: b => y :: bothX [] b
 | x :: a, y :: b => if Op.bytesLess x y then x :: bothX a (y :: b) else if Op.bytesLess y x then y :: bothX (x :: a) b else x :: bothX a b
 termination_by a b => a.length + b.length
theorem len_snoc {α : Type} {l : List α} {x : α} : (l ++ [x]).length = l.length + 1 := by simp
theorem getDJ_of {α : Type} {l : List α} {i : Nat} {a d : α} (h : l[i]? = some a) : l.getD i d = a := by simp [h]
theorem _root_.zE0 : type_of% @getDJ_of := @getDJ_of
theorem drop_getD {l : List Bs} {i : Nat} (h : i < l.length) : l.drop i = l.getD i [] :: l.drop (i + 1) := by
 rw [List.drop_eq_getElem_cons h]; simp [h]
theorem both_end : bothX [] [] = [] := by rw [bothX]
theorem both_A {a b : List Bs} {i k : Nat} (hi : i < a.length) (hk : k ≤ b.length) (h : k = b.length ∨ Op.bytesLess (a.getD i []) (b.getD k []) = true) : bothX (a.drop i) (b.drop k) = a.getD i [] :: bothX (a.drop (i + 1)) (b.drop k) := by
 rw [drop_getD hi]
 by_cases e : k = b.length
 ·rw [e, List.drop_length, bothX]
 ·have hkb : k < b.length := by omega
  rw [drop_getD hkb, bothX, if_pos (h.resolve_left e)]
theorem both_B {a b : List Bs} {i k : Nat} (hk : k < b.length) (hi : i ≤ a.length) (h : i = a.length ∨ (Op.bytesLess (a.getD i []) (b.getD k []) = false ∧ Op.bytesLess (b.getD k []) (a.getD i []) = true)) : bothX (a.drop i) (b.drop k) = b.getD k [] :: bothX (a.drop i) (b.drop (k + 1)) := by
 rw [drop_getD hk]
 by_cases e : i = a.length
 ·rw [e, List.drop_length, bothX]
 ·have hia : i < a.length := by omega
  obtain ⟨h1, h2⟩ := h.resolve_left e
  rw [drop_getD hia, bothX, if_neg (fun hh => by rw [h1] at hh; cases hh), if_pos h2]
theorem both_C {a b : List Bs} {i k : Nat} (hi : i < a.length) (hk : k < b.length) (h1 : Op.bytesLess (a.getD i []) (b.getD k []) = false) (h2 : Op.bytesLess (b.getD k []) (a.getD i []) = false) : bothX (a.drop i) (b.drop k) = a.getD i [] :: bothX (a.drop (i + 1)) (b.drop (k + 1)) := by
 rw [drop_getD hi, drop_getD hk, bothX, if_neg (fun hh => by rw [h1] at hh; cases hh), if_neg (fun hh => by rw [h2] at hh; cases hh)]
theorem both_len : ∀ a b : List Bs, (bothX a b).length ≤ a.length + b.length := by
 intro a b
 induction a, b using bothX.induct with
 | case1 => simp [bothX]
 | case2 x a ih => rw [bothX]; simp at ih ⊢; omega
 | case3 y b ih => rw [bothX]; simp at ih ⊢; omega
 | case4 x a y b h ih => rw [bothX, if_pos h]; simp at ih ⊢; omega
 | case5 x a y b h h2 ih => rw [bothX, if_neg h, if_pos h2]; simp at ih ⊢; omega
 | case6 x a y b h h2 ih => rw [bothX, if_neg h, if_neg h2]; simp at ih ⊢; omega
theorem _root_.zI : type_of% @List.length_map := @List.length_map
theorem _root_.zF : type_of% @Nat.le_of_ble_eq_true := @Nat.le_of_ble_eq_true
theorem _root_.zD : type_of% @Try.underlying48 := @Try.underlying48
theorem _root_.zY : type_of% @Try.results20 := @Try.results20
theorem with_iter (a b : List Bs) (hab : a.length + b.length ≤ 1000000) (ida idb l0 : Nat) : IterOk Try.prog 20 [] [.ref ida 0, .ref idb 0] ((bothX a b).map fun x => [encX x]) (fun σ => σ.length = l0 ∧ σ[ida]? = some (.cells [.lst none 1 (a.map encX)]) ∧ σ[idb]? = some (.cells [.lst none 1 (b.map encX)])) := by
 refine iterOk_of fun id T m hok hm hyt hyf => ?_
 have hml : ((bothX a b).map fun x => [encX x]).length = (bothX a b).length := zI ..
 refine zW Try.func20 V Try.ntmps20 (zF V) ?_
 rw [List.append_nil]
 show mwp _ _ _ _ _ _ _ (([] : MS) ++ T 0)
 refine zC <| qR V <| qA V V V <| qA V V V <| qN <| zA0 ?_
 refine zD1 (α := Nat × Nat × Nat) [(0, _), (1, _), (2, _)] (fun x => [(4, .int .i64 (x.2.1 : Int)), (5, .int .i64 (x.2.2 : Int))]) (fun x => T x.1) (fun x => x.1 ≤ m ∧ x.2.1 ≤ a.length ∧ x.2.2 ≤ b.length ∧ bothX (a.drop x.2.1) (b.drop x.2.2) = (bothX a b).drop x.1) (fun x => a.length - x.2.1 + (b.length - x.2.2)) (⟨0, 0, 0⟩) (.keep V (.keep V (.keep V (.nil)))) (.keep V (.keep V (.nil))) (⟨by simp, by simp, by simp, rfl⟩) (V) ?_
 rintro ⟨j, i, k⟩ ⟨hj, hi, hk, he⟩
 dsimp only at hj hi hk he ⊢
 refine zC <| zC <| qR V <| qM V V V <| qO V <| zG V V ((hok _).2.1) ta48 V <| qE V V zD V <| qC V V V V V <| qM V V V ?_
 refine zE1 (fun h11 => ?_) (fun h11 => ?_)
 ·
  have hia : i < a.length := by rw [zI] at h11; simpa using h11
  refine qT V V V V <| qP V V V V <| qN <| zT V (V) <| zQ <| zA0 <| zC <| qR V <| qA V V V <| qN <| zC <| zA0 <| zC ?_
  refine mwp_draw [] [_] mo (by decide) V V V V ?_
  refine dO V V V (zH0 V V Vv) <| dO V V V (zG V V ((hok _).2.2) ta48 V Vv) <| dO V V V (zU0 V zD V Vv) <| dO V V V (op_cmp V V V V Vv) <| dO V V V (zH0 V V Vv) ?_
  refine zF1 (fun h30 => ?_) (fun h30 => ?_)
  ·
   have hk2 : k = b.length := by rw [zI] at h30; simp at h30; omega
   refine dS V V <| dS V V <| dS V V <| dS V V <| dS V V <| dS V V <| dS V V <| dS V V <| dS V V <| dS V V <| dS V V <| dS V V <| dS V V <| dS V V <| dS V V <| dO V V V (zP0 V V V Vv) <| dO V V V (zM0 V V Vv) <| zO0 <| zT V (V) <| zC ?_
   obtain ⟨x, hs⟩ : ∃ q, a[i]? = some q := ⟨_, zA (by omega)⟩
   have hgx := zE0 (d := []) hs
   refine qR V <| qO V <| zG V V ((hok _).2.1) ta48 V <| qM V V V <| qO V <| zN V zD sz9 (by decide) V V V (zF0 hs) ?_
   refine qO V <| zM V V ta9 V <| qA V V V <| qN <| qR V <| qM V V V <| qO V <| zU V V V (wadd (a := i) (b := 1) V (by omega)) ?_
   refine qA V V V ?_
   have hnx := he
   rw [both_A (by omega) (by omega) (by first | exact .inl hk2 | exact .inr hlt), hgx] at hnx
   obtain ⟨hy, hnx⟩ := zX hnx
   replace hy : ((bothX a b).map fun x => [encX x])[j]? = some [encX x] := by rw [zL, hy]; rfl
   have hjl := (zB.1 hy).1
   refine qN <| zC ?_
   rcases Nat.lt_or_eq_of_le hj with hjm | hjm
   ·
    refine qR V <| qM V V V <| qM V V V <| qO V <| ((hyt j _ hjm hy).at0 V V V).mono ?_
    rintro _ _ ⟨rfl, rfl⟩
    refine qO V <| zG0 V V <| qN <| zP V (V) <| zQ ?_
    refine ⟨⟨j + 1, _, _⟩, by dsimp only; omega, ⟨by dsimp only; omega, by dsimp only; omega, by dsimp only; omega, hnx⟩, rfl, (.keep V (.keep V (.keep V (.nil)))), (.eq V (V) (.eq V (V) (.nil)))⟩
   ·
    refine qR V <| qM V V V <| qM V V V <| qO V <| ((hyf j _ hjm hy).at0 V V V).mono ?_
    rintro _ _ ⟨rfl, rfl⟩
    refine qO V <| zG0 V V <| qN <| zT V (V) ?_
    refine zB0 fun hcv hcl => ?_
    refine zZ ?_
    exact zI0 (S' := T (j + 1)) (by simp) zY (by rw [(hok _).1, (hok _).1]; exact Nat.le_refl _) hcl ⟨rfl, by rw [hjm, if_pos (by omega)]⟩
  ·
   have hk2 : ¬ k = b.length := by rw [zI] at h30; simp at h30; omega
   refine dO V V V (zH0 V V Vv) <| dO V V V (zG V V ((hok _).2.1) ta48 V Vv) <| dO V V V (zU0 V zD V Vv) <| dO V V V (op_cmp V V V V Vv) <| dO V V V (zH0 V V Vv) ?_
   refine zF1 (fun h35 => ?_) (fun h35 => ?_)
   ·
    have hia2 : i < a.length := by rw [zI] at h35; simpa using h35
    obtain ⟨x, hs⟩ : ∃ q, a[i]? = some q := ⟨_, zA (by omega)⟩
    have hgx := zE0 (d := []) hs
    obtain ⟨y, hs2⟩ : ∃ q, b[k]? = some q := ⟨_, zA (by omega)⟩
    have hgy := zE0 (d := []) hs2
    refine dO V V V (zG V V ((hok _).2.1) ta48 V Vv) <| dO V V V (zH0 V V Vv) <| dO V V V (zN V zD sz9 (by decide) V V V (zF0 hs) Vv) ?_
    refine dO V V V (zM V V ta9 V Vv) <| dO V V V (zG V V ((hok _).2.2) ta48 V Vv) <| dO V V V (zH0 V V Vv) <| dO V V V (zN V zD sz9 (by decide) V V V (zF0 hs2) Vv) ?_
    refine dO V V V (zM V V ta9 V Vv) <| dO V V V (zN0 V V V V Vv) <| dO V V V (zP0 V V V Vv) <| dO V V V (zP0 V V V Vv) <| dO V V V (zM0 V V Vv) <| zO0 ?_
    refine zS V (fun h25 => ?_) (fun h25 => ?_)
    ·
     have hlt : Op.bytesLess (a.getD i []) (b.getD k []) = true := by rw [hgx, hgy]; simpa using h25
     refine zC ?_
     obtain ⟨x, hs⟩ : ∃ q, a[i]? = some q := ⟨_, zA (by omega)⟩
     have hgx := zE0 (d := []) hs
     refine qR V <| qO V <| zG V V ((hok _).2.1) ta48 V <| qM V V V <| qO V <| zN V zD sz9 (by decide) V V V (zF0 hs) ?_
     refine qO V <| zM V V ta9 V <| qA V V V <| qN <| qR V <| qM V V V <| qO V <| zU V V V (wadd (a := i) (b := 1) V (by omega)) ?_
     refine qA V V V ?_
     have hnx := he
     rw [both_A (by omega) (by omega) (by first | exact .inl hk2 | exact .inr hlt), hgx] at hnx
     obtain ⟨hy, hnx⟩ := zX hnx
     replace hy : ((bothX a b).map fun x => [encX x])[j]? = some [encX x] := by rw [zL, hy]; rfl
     have hjl := (zB.1 hy).1
     refine qN <| zC ?_
     rcases Nat.lt_or_eq_of_le hj with hjm | hjm
     ·
      refine qR V <| qM V V V <| qM V V V <| qO V <| ((hyt j _ hjm hy).at0 V V V).mono ?_
      rintro _ _ ⟨rfl, rfl⟩
      refine qO V <| zG0 V V <| qN <| zP V (V) <| zQ ?_
      refine ⟨⟨j + 1, _, _⟩, by dsimp only; omega, ⟨by dsimp only; omega, by dsimp only; omega, by dsimp only; omega, hnx⟩, rfl, (.keep V (.keep V (.keep V (.nil)))), (.eq V (V) (.eq V (V) (.nil)))⟩
     ·
      refine qR V <| qM V V V <| qM V V V <| qO V <| ((hyf j _ hjm hy).at0 V V V).mono ?_
      rintro _ _ ⟨rfl, rfl⟩
      refine qO V <| zG0 V V <| qN <| zT V (V) ?_
      refine zB0 fun hcv hcl => ?_
      refine zZ ?_
      exact zI0 (S' := T (j + 1)) (by simp) zY (by rw [(hok _).1, (hok _).1]; exact Nat.le_refl _) hcl ⟨rfl, by rw [hjm, if_pos (by omega)]⟩
    ·
     have hlt : Op.bytesLess (a.getD i []) (b.getD k []) = false := by rw [hgx, hgy]; simpa using h25
     refine zC ?_
     refine mwp_draw [] [_] mo (by decide) V V V V ?_
     refine dO V V V (zH0 V V Vv) <| dO V V V (zG V V ((hok _).2.1) ta48 V Vv) <| dO V V V (zU0 V zD V Vv) <| dO V V V (op_cmp V V V V Vv) <| dO V V V (zH0 V V Vv) ?_
     refine zF1 (fun h58 => ?_) (fun h58 => ?_)
     ·
      have hia3 : i = a.length := by rw [zI] at h58; simp at h58; omega
      refine dS V V <| dS V V <| dS V V <| dS V V <| dS V V <| dS V V <| dS V V <| dS V V <| dS V V <| dO V V V (zP0 V V V Vv) <| dO V V V (zM0 V V Vv) <| zO0 <| zT V (V) <| zC ?_
      obtain ⟨y, hs2⟩ : ∃ q, b[k]? = some q := ⟨_, zA (by omega)⟩
      have hgy := zE0 (d := []) hs2
      refine qR V <| qO V <| zG V V ((hok _).2.2) ta48 V <| qM V V V <| qO V <| zN V zD sz9 (by decide) V V V (zF0 hs2) ?_
      refine qO V <| zM V V ta9 V <| qA V V V <| qN <| qR V <| qM V V V <| qO V <| zU V V V (wadd (a := k) (b := 1) V (by omega)) ?_
      refine qA V V V ?_
      have hnx := he
      rw [both_B (by omega) (by omega) (by first | exact .inl hia3 | exact .inr ⟨hlt, hgt⟩ | exact .inl (by omega)), hgy] at hnx
      obtain ⟨hy, hnx⟩ := zX hnx
      replace hy : ((bothX a b).map fun x => [encX x])[j]? = some [encX y] := by rw [zL, hy]; rfl
      have hjl := (zB.1 hy).1
      refine qN <| zC ?_
      rcases Nat.lt_or_eq_of_le hj with hjm | hjm
      ·
       refine qR V <| qM V V V <| qM V V V <| qO V <| ((hyt j _ hjm hy).at0 V V V).mono ?_
       rintro _ _ ⟨rfl, rfl⟩
       refine qO V <| zG0 V V <| qN <| zP V (V) <| zQ ?_
       refine ⟨⟨j + 1, _, _⟩, by dsimp only; omega, ⟨by dsimp only; omega, by dsimp only; omega, by dsimp only; omega, hnx⟩, rfl, (.keep V (.keep V (.keep V (.nil)))), (.eq V (V) (.eq V (V) (.nil)))⟩
      ·
       refine qR V <| qM V V V <| qM V V V <| qO V <| ((hyf j _ hjm hy).at0 V V V).mono ?_
       rintro _ _ ⟨rfl, rfl⟩
       refine qO V <| zG0 V V <| qN <| zT V (V) ?_
       refine zB0 fun hcv hcl => ?_
       refine zZ ?_
       exact zI0 (S' := T (j + 1)) (by simp) zY (by rw [(hok _).1, (hok _).1]; exact Nat.le_refl _) hcl ⟨rfl, by rw [hjm, if_pos (by omega)]⟩
     ·
      have hia3 : ¬ i = a.length := by rw [zI] at h58; simp at h58; omega
      obtain ⟨x, hs⟩ : ∃ q, a[i]? = some q := ⟨_, zA (by omega)⟩
      have hgx := zE0 (d := []) hs
      obtain ⟨y, hs2⟩ : ∃ q, b[k]? = some q := ⟨_, zA (by omega)⟩
      have hgy := zE0 (d := []) hs2
      refine dO V V V (zG V V ((hok _).2.2) ta48 V Vv) <| dO V V V (zH0 V V Vv) <| dO V V V (zN V zD sz9 (by decide) V V V (zF0 hs2) Vv) ?_
      refine dO V V V (zM V V ta9 V Vv) <| dO V V V (zG V V ((hok _).2.1) ta48 V Vv) <| dO V V V (zH0 V V Vv) <| dO V V V (zN V zD sz9 (by decide) V V V (zF0 hs) Vv) ?_
      refine dO V V V (zM V V ta9 V Vv) <| dO V V V (zN0 V V V V Vv) <| dO V V V (zP0 V V V Vv) <| dO V V V (zM0 V V Vv) <| zO0 ?_
      refine zS V (fun h53 => ?_) (fun h53 => ?_)
      ·
       have hgt : Op.bytesLess (b.getD k []) (a.getD i []) = true := by rw [hgx, hgy]; simpa using h53
       refine zC ?_
       obtain ⟨y, hs2⟩ : ∃ q, b[k]? = some q := ⟨_, zA (by omega)⟩
       have hgy := zE0 (d := []) hs2
       refine qR V <| qO V <| zG V V ((hok _).2.2) ta48 V <| qM V V V <| qO V <| zN V zD sz9 (by decide) V V V (zF0 hs2) ?_
       refine qO V <| zM V V ta9 V <| qA V V V <| qN <| qR V <| qM V V V <| qO V <| zU V V V (wadd (a := k) (b := 1) V (by omega)) ?_
       refine qA V V V ?_
       have hnx := he
       rw [both_B (by omega) (by omega) (by first | exact .inl hia3 | exact .inr ⟨hlt, hgt⟩ | exact .inl (by omega)), hgy] at hnx
       obtain ⟨hy, hnx⟩ := zX hnx
       replace hy : ((bothX a b).map fun x => [encX x])[j]? = some [encX y] := by rw [zL, hy]; rfl
       have hjl := (zB.1 hy).1
       refine qN <| zC ?_
       rcases Nat.lt_or_eq_of_le hj with hjm | hjm
       ·
        refine qR V <| qM V V V <| qM V V V <| qO V <| ((hyt j _ hjm hy).at0 V V V).mono ?_
        rintro _ _ ⟨rfl, rfl⟩
        refine qO V <| zG0 V V <| qN <| zP V (V) <| zQ ?_
        refine ⟨⟨j + 1, _, _⟩, by dsimp only; omega, ⟨by dsimp only; omega, by dsimp only; omega, by dsimp only; omega, hnx⟩, rfl, (.keep V (.keep V (.keep V (.nil)))), (.eq V (V) (.eq V (V) (.nil)))⟩
       ·
        refine qR V <| qM V V V <| qM V V V <| qO V <| ((hyf j _ hjm hy).at0 V V V).mono ?_
        rintro _ _ ⟨rfl, rfl⟩
        refine qO V <| zG0 V V <| qN <| zT V (V) ?_
        refine zB0 fun hcv hcl => ?_
        refine zZ ?_
        exact zI0 (S' := T (j + 1)) (by simp) zY (by rw [(hok _).1, (hok _).1]; exact Nat.le_refl _) hcl ⟨rfl, by rw [hjm, if_pos (by omega)]⟩
      ·
       have hgt : Op.bytesLess (b.getD k []) (a.getD i []) = false := by rw [hgx, hgy]; simpa using h53
       refine zC ?_
       obtain ⟨x, hs⟩ : ∃ q, a[i]? = some q := ⟨_, zA (by omega)⟩
       have hgx := zE0 (d := []) hs
       refine qR V <| qO V <| zG V V ((hok _).2.1) ta48 V <| qM V V V <| qO V <| zN V zD sz9 (by decide) V V V (zF0 hs) ?_
       refine qO V <| zM V V ta9 V <| qA V V V <| qN <| qR V <| qM V V V <| qO V <| zU V V V (wadd (a := i) (b := 1) V (by omega)) ?_
       refine qM V V V <| qO V <| zU V V V (wadd (a := k) (b := 1) V (by omega)) ?_
       refine qA V V V <| qA V V V ?_
       have hnx := he
       rw [both_C (by omega) (by omega) (by first | exact hlt | (exfalso; omega)) hgt, hgx] at hnx
       obtain ⟨hy, hnx⟩ := zX hnx
       replace hy : ((bothX a b).map fun x => [encX x])[j]? = some [encX x] := by rw [zL, hy]; rfl
       have hjl := (zB.1 hy).1
       refine qN <| zC ?_
       rcases Nat.lt_or_eq_of_le hj with hjm | hjm
       ·
        refine qR V <| qM V V V <| qM V V V <| qO V <| ((hyt j _ hjm hy).at0 V V V).mono ?_
        rintro _ _ ⟨rfl, rfl⟩
        refine qO V <| zG0 V V <| qN <| zP V (V) <| zQ ?_
        refine ⟨⟨j + 1, _, _⟩, by dsimp only; omega, ⟨by dsimp only; omega, by dsimp only; omega, by dsimp only; omega, hnx⟩, rfl, (.keep V (.keep V (.keep V (.nil)))), (.eq V (V) (.eq V (V) (.nil)))⟩
       ·
        refine qR V <| qM V V V <| qM V V V <| qO V <| ((hyf j _ hjm hy).at0 V V V).mono ?_
        rintro _ _ ⟨rfl, rfl⟩
        refine qO V <| zG0 V V <| qN <| zT V (V) ?_
        refine zB0 fun hcv hcl => ?_
        refine zZ ?_
        exact zI0 (S' := T (j + 1)) (by simp) zY (by rw [(hok _).1, (hok _).1]; exact Nat.le_refl _) hcl ⟨rfl, by rw [hjm, if_pos (by omega)]⟩
   ·
    have hia2 : ¬ i < a.length := by rw [zI] at h35; simp at h35; omega
    refine dS V V <| dS V V <| dS V V <| dS V V <| dS V V <| dS V V <| dS V V <| dS V V <| dS V V <| dO V V V (zP0 V V V Vv) <| dO V V V (zP0 V V V Vv) <| dO V V V (zM0 V V Vv) <| zO0 <| zP V (V) <| zC ?_
    refine mwp_draw [] [_] mo (by decide) V V V V ?_
    refine dO V V V (zH0 V V Vv) <| dO V V V (zG V V ((hok _).2.1) ta48 V Vv) <| dO V V V (zU0 V zD V Vv) <| dO V V V (op_cmp V V V V Vv) <| dO V V V (zH0 V V Vv) ?_
    refine zF1 (fun h58 => ?_) (fun h58 => ?_)
    ·
     have hia3 : i = a.length := by rw [zI] at h58; simp at h58; omega
     refine dS V V <| dS V V <| dS V V <| dS V V <| dS V V <| dS V V <| dS V V <| dS V V <| dS V V <| dO V V V (zP0 V V V Vv) <| dO V V V (zM0 V V Vv) <| zO0 <| zT V (V) <| zC ?_
     obtain ⟨y, hs2⟩ : ∃ q, b[k]? = some q := ⟨_, zA (by omega)⟩
     have hgy := zE0 (d := []) hs2
     refine qR V <| qO V <| zG V V ((hok _).2.2) ta48 V <| qM V V V <| qO V <| zN V zD sz9 (by decide) V V V (zF0 hs2) ?_
     refine qO V <| zM V V ta9 V <| qA V V V <| qN <| qR V <| qM V V V <| qO V <| zU V V V (wadd (a := k) (b := 1) V (by omega)) ?_
     refine qA V V V ?_
     have hnx := he
     rw [both_B (by omega) (by omega) (by first | exact .inl hia3 | exact .inr ⟨hlt, hgt⟩ | exact .inl (by omega)), hgy] at hnx
     obtain ⟨hy, hnx⟩ := zX hnx
     replace hy : ((bothX a b).map fun x => [encX x])[j]? = some [encX y] := by rw [zL, hy]; rfl
     have hjl := (zB.1 hy).1
     refine qN <| zC ?_
     rcases Nat.lt_or_eq_of_le hj with hjm | hjm
     ·
      refine qR V <| qM V V V <| qM V V V <| qO V <| ((hyt j _ hjm hy).at0 V V V).mono ?_
      rintro _ _ ⟨rfl, rfl⟩
      refine qO V <| zG0 V V <| qN <| zP V (V) <| zQ ?_
      refine ⟨⟨j + 1, _, _⟩, by dsimp only; omega, ⟨by dsimp only; omega, by dsimp only; omega, by dsimp only; omega, hnx⟩, rfl, (.keep V (.keep V (.keep V (.nil)))), (.eq V (V) (.eq V (V) (.nil)))⟩
     ·
      refine qR V <| qM V V V <| qM V V V <| qO V <| ((hyf j _ hjm hy).at0 V V V).mono ?_
      rintro _ _ ⟨rfl, rfl⟩
      refine qO V <| zG0 V V <| qN <| zT V (V) ?_
      refine zB0 fun hcv hcl => ?_
      refine zZ ?_
      exact zI0 (S' := T (j + 1)) (by simp) zY (by rw [(hok _).1, (hok _).1]; exact Nat.le_refl _) hcl ⟨rfl, by rw [hjm, if_pos (by omega)]⟩
    ·
     have hia3 : ¬ i = a.length := by rw [zI] at h58; simp at h58; omega
     obtain ⟨x, hs⟩ : ∃ q, a[i]? = some q := ⟨_, zA (by omega)⟩
     have hgx := zE0 (d := []) hs
     obtain ⟨y, hs2⟩ : ∃ q, b[k]? = some q := ⟨_, zA (by omega)⟩
     have hgy := zE0 (d := []) hs2
     refine dO V V V (zG V V ((hok _).2.2) ta48 V Vv) <| dO V V V (zH0 V V Vv) <| dO V V V (zN V zD sz9 (by decide) V V V (zF0 hs2) Vv) ?_
     refine dO V V V (zM V V ta9 V Vv) <| dO V V V (zG V V ((hok _).2.1) ta48 V Vv) <| dO V V V (zH0 V V Vv) <| dO V V V (zN V zD sz9 (by decide) V V V (zF0 hs) Vv) ?_
     refine dO V V V (zM V V ta9 V Vv) <| dO V V V (zN0 V V V V Vv) <| dO V V V (zP0 V V V Vv) <| dO V V V (zM0 V V Vv) <| zO0 ?_
     refine zS V (fun h53 => ?_) (fun h53 => ?_)
     ·
      have hgt : Op.bytesLess (b.getD k []) (a.getD i []) = true := by rw [hgx, hgy]; simpa using h53
      refine zC ?_
      obtain ⟨y, hs2⟩ : ∃ q, b[k]? = some q := ⟨_, zA (by omega)⟩
      have hgy := zE0 (d := []) hs2
      refine qR V <| qO V <| zG V V ((hok _).2.2) ta48 V <| qM V V V <| qO V <| zN V zD sz9 (by decide) V V V (zF0 hs2) ?_
      refine qO V <| zM V V ta9 V <| qA V V V <| qN <| qR V <| qM V V V <| qO V <| zU V V V (wadd (a := k) (b := 1) V (by omega)) ?_
      refine qA V V V ?_
      have hnx := he
      rw [both_B (by omega) (by omega) (by first | exact .inl hia3 | exact .inr ⟨hlt, hgt⟩ | exact .inl (by omega)), hgy] at hnx
      obtain ⟨hy, hnx⟩ := zX hnx
      replace hy : ((bothX a b).map fun x => [encX x])[j]? = some [encX y] := by rw [zL, hy]; rfl
      have hjl := (zB.1 hy).1
      refine qN <| zC ?_
      rcases Nat.lt_or_eq_of_le hj with hjm | hjm
      ·
       refine qR V <| qM V V V <| qM V V V <| qO V <| ((hyt j _ hjm hy).at0 V V V).mono ?_
       rintro _ _ ⟨rfl, rfl⟩
       refine qO V <| zG0 V V <| qN <| zP V (V) <| zQ ?_
       refine ⟨⟨j + 1, _, _⟩, by dsimp only; omega, ⟨by dsimp only; omega, by dsimp only; omega, by dsimp only; omega, hnx⟩, rfl, (.keep V (.keep V (.keep V (.nil)))), (.eq V (V) (.eq V (V) (.nil)))⟩
      ·
       refine qR V <| qM V V V <| qM V V V <| qO V <| ((hyf j _ hjm hy).at0 V V V).mono ?_
       rintro _ _ ⟨rfl, rfl⟩
       refine qO V <| zG0 V V <| qN <| zT V (V) ?_
       refine zB0 fun hcv hcl => ?_
       refine zZ ?_
       exact zI0 (S' := T (j + 1)) (by simp) zY (by rw [(hok _).1, (hok _).1]; exact Nat.le_refl _) hcl ⟨rfl, by rw [hjm, if_pos (by omega)]⟩
     ·
      have hgt : Op.bytesLess (b.getD k []) (a.getD i []) = false := by rw [hgx, hgy]; simpa using h53
      refine zC ?_
      obtain ⟨x, hs⟩ : ∃ q, a[i]? = some q := ⟨_, zA (by omega)⟩
      have hgx := zE0 (d := []) hs
      refine qR V <| qO V <| zG V V ((hok _).2.1) ta48 V <| qM V V V <| qO V <| zN V zD sz9 (by decide) V V V (zF0 hs) ?_
      refine qO V <| zM V V ta9 V <| qA V V V <| qN <| qR V <| qM V V V <| qO V <| zU V V V (wadd (a := i) (b := 1) V (by omega)) ?_
      refine qM V V V <| qO V <| zU V V V (wadd (a := k) (b := 1) V (by omega)) ?_
      refine qA V V V <| qA V V V ?_
      have hnx := he
      rw [both_C (by omega) (by omega) (by first | exact hlt | (exfalso; omega)) hgt, hgx] at hnx
      obtain ⟨hy, hnx⟩ := zX hnx
      replace hy : ((bothX a b).map fun x => [encX x])[j]? = some [encX x] := by rw [zL, hy]; rfl
      have hjl := (zB.1 hy).1
      refine qN <| zC ?_
      rcases Nat.lt_or_eq_of_le hj with hjm | hjm
      ·
       refine qR V <| qM V V V <| qM V V V <| qO V <| ((hyt j _ hjm hy).at0 V V V).mono ?_
       rintro _ _ ⟨rfl, rfl⟩
       refine qO V <| zG0 V V <| qN <| zP V (V) <| zQ ?_
       refine ⟨⟨j + 1, _, _⟩, by dsimp only; omega, ⟨by dsimp only; omega, by dsimp only; omega, by dsimp only; omega, hnx⟩, rfl, (.keep V (.keep V (.keep V (.nil)))), (.eq V (V) (.eq V (V) (.nil)))⟩
      ·
       refine qR V <| qM V V V <| qM V V V <| qO V <| ((hyf j _ hjm hy).at0 V V V).mono ?_
       rintro _ _ ⟨rfl, rfl⟩
       refine qO V <| zG0 V V <| qN <| zT V (V) ?_
       refine zB0 fun hcv hcl => ?_
       refine zZ ?_
       exact zI0 (S' := T (j + 1)) (by simp) zY (by rw [(hok _).1, (hok _).1]; exact Nat.le_refl _) hcl ⟨rfl, by rw [hjm, if_pos (by omega)]⟩
 ·
  have hia : ¬ i < a.length := by rw [zI] at h11; simp at h11; omega
  refine qM V V V <| qO V <| zG V V ((hok _).2.2) ta48 V <| qE V V zD V <| qC V V V V V <| qP V V V V <| qN ?_
  refine zS V (fun h16 => ?_) (fun h16 => ?_)
  ·
   have hkb : k < b.length := by rw [zI] at h16; simpa using h16
   refine zQ <| zA0 <| zC <| qR V <| qA V V V <| qN <| zC <| zA0 <| zC ?_
   refine mwp_draw [] [_] mo (by decide) V V V V ?_
   refine dO V V V (zH0 V V Vv) <| dO V V V (zG V V ((hok _).2.2) ta48 V Vv) <| dO V V V (zU0 V zD V Vv) <| dO V V V (op_cmp V V V V Vv) <| dO V V V (zH0 V V Vv) ?_
   refine zF1 (fun h30 => ?_) (fun h30 => ?_)
   ·
    have hk2 : k = b.length := by rw [zI] at h30; simp at h30; omega
    refine dS V V <| dS V V <| dS V V <| dS V V <| dS V V <| dS V V <| dS V V <| dS V V <| dS V V <| dS V V <| dS V V <| dS V V <| dS V V <| dS V V <| dS V V <| dO V V V (zP0 V V V Vv) <| dO V V V (zM0 V V Vv) <| zO0 <| zT V (V) <| zC ?_
    obtain ⟨x, hs⟩ : ∃ q, a[i]? = some q := ⟨_, zA (by omega)⟩
    have hgx := zE0 (d := []) hs
    refine qR V <| qO V <| zG V V ((hok _).2.1) ta48 V <| qM V V V <| qO V <| zN V zD sz9 (by decide) V V V (zF0 hs) ?_
    refine qO V <| zM V V ta9 V <| qA V V V <| qN <| qR V <| qM V V V <| qO V <| zU V V V (wadd (a := i) (b := 1) V (by omega)) ?_
    refine qA V V V ?_
    have hnx := he
    rw [both_A (by omega) (by omega) (by first | exact .inl hk2 | exact .inr hlt), hgx] at hnx
    obtain ⟨hy, hnx⟩ := zX hnx
    replace hy : ((bothX a b).map fun x => [encX x])[j]? = some [encX x] := by rw [zL, hy]; rfl
    have hjl := (zB.1 hy).1
    refine qN <| zC ?_
    rcases Nat.lt_or_eq_of_le hj with hjm | hjm
    ·
     refine qR V <| qM V V V <| qM V V V <| qO V <| ((hyt j _ hjm hy).at0 V V V).mono ?_
     rintro _ _ ⟨rfl, rfl⟩
     refine qO V <| zG0 V V <| qN <| zP V (V) <| zQ ?_
     refine ⟨⟨j + 1, _, _⟩, by dsimp only; omega, ⟨by dsimp only; omega, by dsimp only; omega, by dsimp only; omega, hnx⟩, rfl, (.keep V (.keep V (.keep V (.nil)))), (.eq V (V) (.eq V (V) (.nil)))⟩
    ·
     refine qR V <| qM V V V <| qM V V V <| qO V <| ((hyf j _ hjm hy).at0 V V V).mono ?_
     rintro _ _ ⟨rfl, rfl⟩
     refine qO V <| zG0 V V <| qN <| zT V (V) ?_
     refine zB0 fun hcv hcl => ?_
     refine zZ ?_
     exact zI0 (S' := T (j + 1)) (by simp) zY (by rw [(hok _).1, (hok _).1]; exact Nat.le_refl _) hcl ⟨rfl, by rw [hjm, if_pos (by omega)]⟩
   ·
    have hk2 : ¬ k = b.length := by rw [zI] at h30; simp at h30; omega
    refine dO V V V (zH0 V V Vv) <| dO V V V (zG V V ((hok _).2.1) ta48 V Vv) <| dO V V V (zU0 V zD V Vv) <| dO V V V (op_cmp V V V V Vv) <| dO V V V (zH0 V V Vv) ?_
    refine zF1 (fun h35 => ?_) (fun h35 => ?_)
    ·
     have hia2 : i < a.length := by rw [zI] at h35; simpa using h35
     obtain ⟨x, hs⟩ : ∃ q, a[i]? = some q := ⟨_, zA (by omega)⟩
     have hgx := zE0 (d := []) hs
     obtain ⟨y, hs2⟩ : ∃ q, b[k]? = some q := ⟨_, zA (by omega)⟩
     have hgy := zE0 (d := []) hs2
     refine dO V V V (zG V V ((hok _).2.1) ta48 V Vv) <| dO V V V (zH0 V V Vv) <| dO V V V (zN V zD sz9 (by decide) V V V (zF0 hs) Vv) ?_
     refine dO V V V (zM V V ta9 V Vv) <| dO V V V (zG V V ((hok _).2.2) ta48 V Vv) <| dO V V V (zH0 V V Vv) <| dO V V V (zN V zD sz9 (by decide) V V V (zF0 hs2) Vv) ?_
     refine dO V V V (zM V V ta9 V Vv) <| dO V V V (zN0 V V V V Vv) <| dO V V V (zP0 V V V Vv) <| dO V V V (zP0 V V V Vv) <| dO V V V (zM0 V V Vv) <| zO0 ?_
     refine zS V (fun h25 => ?_) (fun h25 => ?_)
     ·
      have hlt : Op.bytesLess (a.getD i []) (b.getD k []) = true := by rw [hgx, hgy]; simpa using h25
      refine zC ?_
      obtain ⟨x, hs⟩ : ∃ q, a[i]? = some q := ⟨_, zA (by omega)⟩
      have hgx := zE0 (d := []) hs
      refine qR V <| qO V <| zG V V ((hok _).2.1) ta48 V <| qM V V V <| qO V <| zN V zD sz9 (by decide) V V V (zF0 hs) ?_
      refine qO V <| zM V V ta9 V <| qA V V V <| qN <| qR V <| qM V V V <| qO V <| zU V V V (wadd (a := i) (b := 1) V (by omega)) ?_
      refine qA V V V ?_
      have hnx := he
      rw [both_A (by omega) (by omega) (by first | exact .inl hk2 | exact .inr hlt), hgx] at hnx
      obtain ⟨hy, hnx⟩ := zX hnx
      replace hy : ((bothX a b).map fun x => [encX x])[j]? = some [encX x] := by rw [zL, hy]; rfl
      have hjl := (zB.1 hy).1
      refine qN <| zC ?_
      rcases Nat.lt_or_eq_of_le hj with hjm | hjm
      ·
       refine qR V <| qM V V V <| qM V V V <| qO V <| ((hyt j _ hjm hy).at0 V V V).mono ?_
       rintro _ _ ⟨rfl, rfl⟩
       refine qO V <| zG0 V V <| qN <| zP V (V) <| zQ ?_
       refine ⟨⟨j + 1, _, _⟩, by dsimp only; omega, ⟨by dsimp only; omega, by dsimp only; omega, by dsimp only; omega, hnx⟩, rfl, (.keep V (.keep V (.keep V (.nil)))), (.eq V (V) (.eq V (V) (.nil)))⟩
      ·
       refine qR V <| qM V V V <| qM V V V <| qO V <| ((hyf j _ hjm hy).at0 V V V).mono ?_
       rintro _ _ ⟨rfl, rfl⟩
       refine qO V <| zG0 V V <| qN <| zT V (V) ?_
       refine zB0 fun hcv hcl => ?_
       refine zZ ?_
       exact zI0 (S' := T (j + 1)) (by simp) zY (by rw [(hok _).1, (hok _).1]; exact Nat.le_refl _) hcl ⟨rfl, by rw [hjm, if_pos (by omega)]⟩
     ·
      have hlt : Op.bytesLess (a.getD i []) (b.getD k []) = false := by rw [hgx, hgy]; simpa using h25
      refine zC ?_
      refine mwp_draw [] [_] mo (by decide) V V V V ?_
      refine dO V V V (zH0 V V Vv) <| dO V V V (zG V V ((hok _).2.1) ta48 V Vv) <| dO V V V (zU0 V zD V Vv) <| dO V V V (op_cmp V V V V Vv) <| dO V V V (zH0 V V Vv) ?_
      refine zF1 (fun h58 => ?_) (fun h58 => ?_)
      ·
       have hia3 : i = a.length := by rw [zI] at h58; simp at h58; omega
       refine dS V V <| dS V V <| dS V V <| dS V V <| dS V V <| dS V V <| dS V V <| dS V V <| dS V V <| dO V V V (zP0 V V V Vv) <| dO V V V (zM0 V V Vv) <| zO0 <| zT V (V) <| zC ?_
       obtain ⟨y, hs2⟩ : ∃ q, b[k]? = some q := ⟨_, zA (by omega)⟩
       have hgy := zE0 (d := []) hs2
       refine qR V <| qO V <| zG V V ((hok _).2.2) ta48 V <| qM V V V <| qO V <| zN V zD sz9 (by decide) V V V (zF0 hs2) ?_
       refine qO V <| zM V V ta9 V <| qA V V V <| qN <| qR V <| qM V V V <| qO V <| zU V V V (wadd (a := k) (b := 1) V (by omega)) ?_
       refine qA V V V ?_
       have hnx := he
       rw [both_B (by omega) (by omega) (by first | exact .inl hia3 | exact .inr ⟨hlt, hgt⟩ | exact .inl (by omega)), hgy] at hnx
       obtain ⟨hy, hnx⟩ := zX hnx
       replace hy : ((bothX a b).map fun x => [encX x])[j]? = some [encX y] := by rw [zL, hy]; rfl
       have hjl := (zB.1 hy).1
       refine qN <| zC ?_
       rcases Nat.lt_or_eq_of_le hj with hjm | hjm
       ·
        refine qR V <| qM V V V <| qM V V V <| qO V <| ((hyt j _ hjm hy).at0 V V V).mono ?_
        rintro _ _ ⟨rfl, rfl⟩
        refine qO V <| zG0 V V <| qN <| zP V (V) <| zQ ?_
        refine ⟨⟨j + 1, _, _⟩, by dsimp only; omega, ⟨by dsimp only; omega, by dsimp only; omega, by dsimp only; omega, hnx⟩, rfl, (.keep V (.keep V (.keep V (.nil)))), (.eq V (V) (.eq V (V) (.nil)))⟩
       ·
        refine qR V <| qM V V V <| qM V V V <| qO V <| ((hyf j _ hjm hy).at0 V V V).mono ?_
        rintro _ _ ⟨rfl, rfl⟩
        refine qO V <| zG0 V V <| qN <| zT V (V) ?_
        refine zB0 fun hcv hcl => ?_
        refine zZ ?_
        exact zI0 (S' := T (j + 1)) (by simp) zY (by rw [(hok _).1, (hok _).1]; exact Nat.le_refl _) hcl ⟨rfl, by rw [hjm, if_pos (by omega)]⟩
      ·
       have hia3 : ¬ i = a.length := by rw [zI] at h58; simp at h58; omega
       obtain ⟨x, hs⟩ : ∃ q, a[i]? = some q := ⟨_, zA (by omega)⟩
       have hgx := zE0 (d := []) hs
       obtain ⟨y, hs2⟩ : ∃ q, b[k]? = some q := ⟨_, zA (by omega)⟩
       have hgy := zE0 (d := []) hs2
       refine dO V V V (zG V V ((hok _).2.2) ta48 V Vv) <| dO V V V (zH0 V V Vv) <| dO V V V (zN V zD sz9 (by decide) V V V (zF0 hs2) Vv) ?_
       refine dO V V V (zM V V ta9 V Vv) <| dO V V V (zG V V ((hok _).2.1) ta48 V Vv) <| dO V V V (zH0 V V Vv) <| dO V V V (zN V zD sz9 (by decide) V V V (zF0 hs) Vv) ?_
       refine dO V V V (zM V V ta9 V Vv) <| dO V V V (zN0 V V V V Vv) <| dO V V V (zP0 V V V Vv) <| dO V V V (zM0 V V Vv) <| zO0 ?_
       refine zS V (fun h53 => ?_) (fun h53 => ?_)
       ·
        have hgt : Op.bytesLess (b.getD k []) (a.getD i []) = true := by rw [hgx, hgy]; simpa using h53
        refine zC ?_
        obtain ⟨y, hs2⟩ : ∃ q, b[k]? = some q := ⟨_, zA (by omega)⟩
        have hgy := zE0 (d := []) hs2
        refine qR V <| qO V <| zG V V ((hok _).2.2) ta48 V <| qM V V V <| qO V <| zN V zD sz9 (by decide) V V V (zF0 hs2) ?_
        refine qO V <| zM V V ta9 V <| qA V V V <| qN <| qR V <| qM V V V <| qO V <| zU V V V (wadd (a := k) (b := 1) V (by omega)) ?_
        refine qA V V V ?_
        have hnx := he
        rw [both_B (by omega) (by omega) (by first | exact .inl hia3 | exact .inr ⟨hlt, hgt⟩ | exact .inl (by omega)), hgy] at hnx
        obtain ⟨hy, hnx⟩ := zX hnx
        replace hy : ((bothX a b).map fun x => [encX x])[j]? = some [encX y] := by rw [zL, hy]; rfl
        have hjl := (zB.1 hy).1
        refine qN <| zC ?_
        rcases Nat.lt_or_eq_of_le hj with hjm | hjm
        ·
         refine qR V <| qM V V V <| qM V V V <| qO V <| ((hyt j _ hjm hy).at0 V V V).mono ?_
         rintro _ _ ⟨rfl, rfl⟩
         refine qO V <| zG0 V V <| qN <| zP V (V) <| zQ ?_
         refine ⟨⟨j + 1, _, _⟩, by dsimp only; omega, ⟨by dsimp only; omega, by dsimp only; omega, by dsimp only; omega, hnx⟩, rfl, (.keep V (.keep V (.keep V (.nil)))), (.eq V (V) (.eq V (V) (.nil)))⟩
        ·
         refine qR V <| qM V V V <| qM V V V <| qO V <| ((hyf j _ hjm hy).at0 V V V).mono ?_
         rintro _ _ ⟨rfl, rfl⟩
         refine qO V <| zG0 V V <| qN <| zT V (V) ?_
         refine zB0 fun hcv hcl => ?_
         refine zZ ?_
         exact zI0 (S' := T (j + 1)) (by simp) zY (by rw [(hok _).1, (hok _).1]; exact Nat.le_refl _) hcl ⟨rfl, by rw [hjm, if_pos (by omega)]⟩
       ·
        have hgt : Op.bytesLess (b.getD k []) (a.getD i []) = false := by rw [hgx, hgy]; simpa using h53
        refine zC ?_
        obtain ⟨x, hs⟩ : ∃ q, a[i]? = some q := ⟨_, zA (by omega)⟩
        have hgx := zE0 (d := []) hs
        refine qR V <| qO V <| zG V V ((hok _).2.1) ta48 V <| qM V V V <| qO V <| zN V zD sz9 (by decide) V V V (zF0 hs) ?_
        refine qO V <| zM V V ta9 V <| qA V V V <| qN <| qR V <| qM V V V <| qO V <| zU V V V (wadd (a := i) (b := 1) V (by omega)) ?_
        refine qM V V V <| qO V <| zU V V V (wadd (a := k) (b := 1) V (by omega)) ?_
        refine qA V V V <| qA V V V ?_
        have hnx := he
        rw [both_C (by omega) (by omega) (by first | exact hlt | (exfalso; omega)) hgt, hgx] at hnx
        obtain ⟨hy, hnx⟩ := zX hnx
        replace hy : ((bothX a b).map fun x => [encX x])[j]? = some [encX x] := by rw [zL, hy]; rfl
        have hjl := (zB.1 hy).1
        refine qN <| zC ?_
        rcases Nat.lt_or_eq_of_le hj with hjm | hjm
        ·
         refine qR V <| qM V V V <| qM V V V <| qO V <| ((hyt j _ hjm hy).at0 V V V).mono ?_
         rintro _ _ ⟨rfl, rfl⟩
         refine qO V <| zG0 V V <| qN <| zP V (V) <| zQ ?_
         refine ⟨⟨j + 1, _, _⟩, by dsimp only; omega, ⟨by dsimp only; omega, by dsimp only; omega, by dsimp only; omega, hnx⟩, rfl, (.keep V (.keep V (.keep V (.nil)))), (.eq V (V) (.eq V (V) (.nil)))⟩
        ·
         refine qR V <| qM V V V <| qM V V V <| qO V <| ((hyf j _ hjm hy).at0 V V V).mono ?_
         rintro _ _ ⟨rfl, rfl⟩
         refine qO V <| zG0 V V <| qN <| zT V (V) ?_
         refine zB0 fun hcv hcl => ?_
         refine zZ ?_
         exact zI0 (S' := T (j + 1)) (by simp) zY (by rw [(hok _).1, (hok _).1]; exact Nat.le_refl _) hcl ⟨rfl, by rw [hjm, if_pos (by omega)]⟩
    ·
     have hia2 : ¬ i < a.length := by rw [zI] at h35; simp at h35; omega
     refine dS V V <| dS V V <| dS V V <| dS V V <| dS V V <| dS V V <| dS V V <| dS V V <| dS V V <| dO V V V (zP0 V V V Vv) <| dO V V V (zP0 V V V Vv) <| dO V V V (zM0 V V Vv) <| zO0 <| zP V (V) <| zC ?_
     refine mwp_draw [] [_] mo (by decide) V V V V ?_
     refine dO V V V (zH0 V V Vv) <| dO V V V (zG V V ((hok _).2.1) ta48 V Vv) <| dO V V V (zU0 V zD V Vv) <| dO V V V (op_cmp V V V V Vv) <| dO V V V (zH0 V V Vv) ?_
     refine zF1 (fun h58 => ?_) (fun h58 => ?_)
     ·
      have hia3 : i = a.length := by rw [zI] at h58; simp at h58; omega
      refine dS V V <| dS V V <| dS V V <| dS V V <| dS V V <| dS V V <| dS V V <| dS V V <| dS V V <| dO V V V (zP0 V V V Vv) <| dO V V V (zM0 V V Vv) <| zO0 <| zT V (V) <| zC ?_
      obtain ⟨y, hs2⟩ : ∃ q, b[k]? = some q := ⟨_, zA (by omega)⟩
      have hgy := zE0 (d := []) hs2
      refine qR V <| qO V <| zG V V ((hok _).2.2) ta48 V <| qM V V V <| qO V <| zN V zD sz9 (by decide) V V V (zF0 hs2) ?_
      refine qO V <| zM V V ta9 V <| qA V V V <| qN <| qR V <| qM V V V <| qO V <| zU V V V (wadd (a := k) (b := 1) V (by omega)) ?_
      refine qA V V V ?_
      have hnx := he
      rw [both_B (by omega) (by omega) (by first | exact .inl hia3 | exact .inr ⟨hlt, hgt⟩ | exact .inl (by omega)), hgy] at hnx
      obtain ⟨hy, hnx⟩ := zX hnx
      replace hy : ((bothX a b).map fun x => [encX x])[j]? = some [encX y] := by rw [zL, hy]; rfl
      have hjl := (zB.1 hy).1
      refine qN <| zC ?_
      rcases Nat.lt_or_eq_of_le hj with hjm | hjm
      ·
       refine qR V <| qM V V V <| qM V V V <| qO V <| ((hyt j _ hjm hy).at0 V V V).mono ?_
       rintro _ _ ⟨rfl, rfl⟩
       refine qO V <| zG0 V V <| qN <| zP V (V) <| zQ ?_
       refine ⟨⟨j + 1, _, _⟩, by dsimp only; omega, ⟨by dsimp only; omega, by dsimp only; omega, by dsimp only; omega, hnx⟩, rfl, (.keep V (.keep V (.keep V (.nil)))), (.eq V (V) (.eq V (V) (.nil)))⟩
      ·
       refine qR V <| qM V V V <| qM V V V <| qO V <| ((hyf j _ hjm hy).at0 V V V).mono ?_
       rintro _ _ ⟨rfl, rfl⟩
       refine qO V <| zG0 V V <| qN <| zT V (V) ?_
       refine zB0 fun hcv hcl => ?_
       refine zZ ?_
       exact zI0 (S' := T (j + 1)) (by simp) zY (by rw [(hok _).1, (hok _).1]; exact Nat.le_refl _) hcl ⟨rfl, by rw [hjm, if_pos (by omega)]⟩
     ·
      have hia3 : ¬ i = a.length := by rw [zI] at h58; simp at h58; omega
      obtain ⟨x, hs⟩ : ∃ q, a[i]? = some q := ⟨_, zA (by omega)⟩
      have hgx := zE0 (d := []) hs
      obtain ⟨y, hs2⟩ : ∃ q, b[k]? = some q := ⟨_, zA (by omega)⟩
      have hgy := zE0 (d := []) hs2
      refine dO V V V (zG V V ((hok _).2.2) ta48 V Vv) <| dO V V V (zH0 V V Vv) <| dO V V V (zN V zD sz9 (by decide) V V V (zF0 hs2) Vv) ?_
      refine dO V V V (zM V V ta9 V Vv) <| dO V V V (zG V V ((hok _).2.1) ta48 V Vv) <| dO V V V (zH0 V V Vv) <| dO V V V (zN V zD sz9 (by decide) V V V (zF0 hs) Vv) ?_
      refine dO V V V (zM V V ta9 V Vv) <| dO V V V (zN0 V V V V Vv) <| dO V V V (zP0 V V V Vv) <| dO V V V (zM0 V V Vv) <| zO0 ?_
      refine zS V (fun h53 => ?_) (fun h53 => ?_)
      ·
       have hgt : Op.bytesLess (b.getD k []) (a.getD i []) = true := by rw [hgx, hgy]; simpa using h53
       refine zC ?_
       obtain ⟨y, hs2⟩ : ∃ q, b[k]? = some q := ⟨_, zA (by omega)⟩
       have hgy := zE0 (d := []) hs2
       refine qR V <| qO V <| zG V V ((hok _).2.2) ta48 V <| qM V V V <| qO V <| zN V zD sz9 (by decide) V V V (zF0 hs2) ?_
       refine qO V <| zM V V ta9 V <| qA V V V <| qN <| qR V <| qM V V V <| qO V <| zU V V V (wadd (a := k) (b := 1) V (by omega)) ?_
       refine qA V V V ?_
       have hnx := he
       rw [both_B (by omega) (by omega) (by first | exact .inl hia3 | exact .inr ⟨hlt, hgt⟩ | exact .inl (by omega)), hgy] at hnx
       obtain ⟨hy, hnx⟩ := zX hnx
       replace hy : ((bothX a b).map fun x => [encX x])[j]? = some [encX y] := by rw [zL, hy]; rfl
       have hjl := (zB.1 hy).1
       refine qN <| zC ?_
       rcases Nat.lt_or_eq_of_le hj with hjm | hjm
       ·
        refine qR V <| qM V V V <| qM V V V <| qO V <| ((hyt j _ hjm hy).at0 V V V).mono ?_
        rintro _ _ ⟨rfl, rfl⟩
        refine qO V <| zG0 V V <| qN <| zP V (V) <| zQ ?_
        refine ⟨⟨j + 1, _, _⟩, by dsimp only; omega, ⟨by dsimp only; omega, by dsimp only; omega, by dsimp only; omega, hnx⟩, rfl, (.keep V (.keep V (.keep V (.nil)))), (.eq V (V) (.eq V (V) (.nil)))⟩
       ·
        refine qR V <| qM V V V <| qM V V V <| qO V <| ((hyf j _ hjm hy).at0 V V V).mono ?_
        rintro _ _ ⟨rfl, rfl⟩
        refine qO V <| zG0 V V <| qN <| zT V (V) ?_
        refine zB0 fun hcv hcl => ?_
        refine zZ ?_
        exact zI0 (S' := T (j + 1)) (by simp) zY (by rw [(hok _).1, (hok _).1]; exact Nat.le_refl _) hcl ⟨rfl, by rw [hjm, if_pos (by omega)]⟩
      ·
       have hgt : Op.bytesLess (b.getD k []) (a.getD i []) = false := by rw [hgx, hgy]; simpa using h53
       refine zC ?_
       obtain ⟨x, hs⟩ : ∃ q, a[i]? = some q := ⟨_, zA (by omega)⟩
       have hgx := zE0 (d := []) hs
       refine qR V <| qO V <| zG V V ((hok _).2.1) ta48 V <| qM V V V <| qO V <| zN V zD sz9 (by decide) V V V (zF0 hs) ?_
       refine qO V <| zM V V ta9 V <| qA V V V <| qN <| qR V <| qM V V V <| qO V <| zU V V V (wadd (a := i) (b := 1) V (by omega)) ?_
       refine qM V V V <| qO V <| zU V V V (wadd (a := k) (b := 1) V (by omega)) ?_
       refine qA V V V <| qA V V V ?_
       have hnx := he
       rw [both_C (by omega) (by omega) (by first | exact hlt | (exfalso; omega)) hgt, hgx] at hnx
       obtain ⟨hy, hnx⟩ := zX hnx
       replace hy : ((bothX a b).map fun x => [encX x])[j]? = some [encX x] := by rw [zL, hy]; rfl
       have hjl := (zB.1 hy).1
       refine qN <| zC ?_
       rcases Nat.lt_or_eq_of_le hj with hjm | hjm
       ·
        refine qR V <| qM V V V <| qM V V V <| qO V <| ((hyt j _ hjm hy).at0 V V V).mono ?_
        rintro _ _ ⟨rfl, rfl⟩
        refine qO V <| zG0 V V <| qN <| zP V (V) <| zQ ?_
        refine ⟨⟨j + 1, _, _⟩, by dsimp only; omega, ⟨by dsimp only; omega, by dsimp only; omega, by dsimp only; omega, hnx⟩, rfl, (.keep V (.keep V (.keep V (.nil)))), (.eq V (V) (.eq V (V) (.nil)))⟩
       ·
        refine qR V <| qM V V V <| qM V V V <| qO V <| ((hyf j _ hjm hy).at0 V V V).mono ?_
        rintro _ _ ⟨rfl, rfl⟩
        refine qO V <| zG0 V V <| qN <| zT V (V) ?_
        refine zB0 fun hcv hcl => ?_
        refine zZ ?_
        exact zI0 (S' := T (j + 1)) (by simp) zY (by rw [(hok _).1, (hok _).1]; exact Nat.le_refl _) hcl ⟨rfl, by rw [hjm, if_pos (by omega)]⟩
  ·
   have hkb : ¬ k < b.length := by rw [zI] at h16; simp at h16; omega
   rw [show i = a.length by omega, show k = b.length by omega, List.drop_length, List.drop_length, both_end] at he
   have hdl := drop_nil_len he
   have hjm : j = m := by omega
   refine zB0 fun hcv hcl => ?_
   refine mwp_exit ?_
   exact zI0 (S' := T j) (by simp) zY (by rw [(hok _).1, (hok _).1]; exact Nat.le_refl _) hcl ⟨rfl, by rw [hjm, if_neg (by omega)]⟩
theorem with_spec (a b : List Bs) (S : MS) : MCalls Try.prog 18 [.lst none 1 (a.map encX), .lst none 1 (b.map encX)] S fun v σ' => v = .fn (.func 20) [] [.ref S.length 0, .ref (S.length + 1) 0] ∧ σ' = S ++ [.cells [.lst none 1 (a.map encX)], .cells [.lst none 1 (b.map encX)]] := by
 refine zW Try.func18 V Try.ntmps18 (zF V) ?_
 refine zC <| qR V <| qB V V V V V <| qB V V V V V <| qA V V V <| qN <| zC <| qR V <| qO V <| op_makeFunc V V V <| qA V V V <| qN ?_
 refine zB0 fun hcv hcl => ?_
 refine zZ ?_
 exact ret_tmpT (.inr V) Try.results18 V (.refl _) (hcv 4 _ rfl) (by simp) hcl Vv
theorem bothL_cl {t d ty n : Nat} {xs a b : List Bs} {o : MObj} (ht : t < d) (ho : o ∈ [MObj.cells [.lst (some t) 1 (xs.map encX)], .cells [.lst none 1 (a.map encX)], .cells [.lst none 1 (b.map encX)], .row ty 1 n]) : o.cl d := by
 simp only [List.mem_cons, List.not_mem_nil, or_false] at ho
 rcases ho with rfl | rfl | rfl | rfl
 ·intro x hx
  simp at hx
  subst hx
  exact cl_lstT ht (cl_encX _) encX_one
 ·intro x hx
  simp at hx
  subst hx
  exact zZ0 _ _
 ·intro x hx
  simp at hx
  subst hx
  exact zZ0 _ _
 ·exact trivial
theorem get_b1 {A R : MS} {o a b c a' : MObj} : ((A ++ [o, a, b, c]) ++ R)[(A ++ [a']).length]? = some a := by rw [zJ, zK, getElem?_own]; rfl
theorem get_b2 {A R : MS} {o a b c a' : MObj} : ((A ++ [o, a, b, c]) ++ R)[(A ++ [a']).length + 1]? = some b := by rw [zJ, zK, Nat.add_assoc, getElem?_own]; rfl
theorem _root_.zH : type_of% @Try.underlying27 := @Try.underlying27
theorem rowsBoth_spec (a b : List Bs) (hab : a.length + b.length ≤ 1000000) (S : MS) : MCalls Try.prog 14 [.lst none 1 (a.map encX), .lst none 1 (b.map encX)] S fun v σ' => v = .lst none 1 ((bothX a b).map encX) ∧ σ' = S := by
 refine zW Try.func14 V Try.ntmps14 (zF V) ?_
 refine zC <| qR V <| qA V V V <| qN <| zC <| qR V <| qO V <| op_alloc' V zm27 V V <| qN <| zC <| zC <| qR V <| qM V V V <| qM V V V ?_
 refine qX V V V V co18 (with_spec a b _) ?_
 rw [zK S]
 refine qN <| zA0 <| mwp_cellrow 0 9 1 V (Nat.le_refl _) V V ?_
 refine mwp_rangeB (ok := fun σ => σ.length = S.length + 5 ∧ σ[(S ++ [MObj.cells [.lst0]]).length]? = some (.cells [.lst none 1 (a.map encX)]) ∧ σ[(S ++ [MObj.cells [.lst0]]).length + 1]? = some (.cells [.lst none 1 (b.map encX)])) (ys := (bothX a b).map fun x => [encX x]) .ret (.inl V) (fun j => true) (fun j => ([.cells [.lst (some (S.length + 3)) 1 (((bothX a b).take j).map encX)], .cells [.lst none 1 (a.map encX)], .cells [.lst none 1 (b.map encX)], .row 9 1 ((bothX a b).take j).length] : MS)) (fun j => ([.cells [.lst (some (S.length + 3)) 1 (((bothX a b).take j).map encX)], .cells [.lst none 1 (a.map encX)], .cells [.lst none 1 (b.map encX)], .row 9 1 ((bothX a b).take j).length] : MS)) (fun j => V) (fun j => V) V (fun j o ho n hn => bothL_cl (by simp at hn; omega) ho) (fun j o ho n hn => bothL_cl (by simp at hn; omega) ho) V co20 V (by simp) ((with_iter a b hab _ _ _).weak fun σ h => h.1) (fun j => ⟨by simp only [zJ, zO, List.length_nil], get_b1, get_b2⟩) (fun j s q => ⟨by simp only [zJ, zO, List.length_nil], get_b1, get_b2⟩) V (fun y hy => by obtain ⟨i, _, rfl⟩ := List.mem_map.1 hy; rfl) ?_ ?_ ?_
 ·
  intro j y hy hbef L'
  rw [zL] at hy
  obtain ⟨x, hp, rfl⟩ := Option.map_eq_some_iff.1 hy
  have hjl := (zB.1 hp).1
  have hbl := both_len a b
  have htl : ((bothX a b).take j).length ≤ 1000000 := by rw [List.length_take]; omega
  refine qR V <| qA V V V <| qN ?_
  refine ⟨rfl, [], by rw [List.append_nil], ?_⟩
  rw [List.append_nil]
  refine zA0 <| qR V <| qO V <| op_load_mid V V V ta27 V <| qM V V V <| qO V <| op_buildSlice V zH el9 V V (by decide) (by decide) V V ?_
  refine qO V <| op_append_mid V zH el9 V V V (by simp) (by simp only [zI, zO, List.length_nil]; omega) (by simp only [zI, zO, List.length_nil]; omega) V ?_
  refine qO V <| op_store_mid V V V V sz27 V V (zF V) V <| qN ?_
  exact .inl ⟨rfl, rfl, [], by rw [List.append_nil, List.take_add_one, hp, Option.toList_some, List.map_append, len_snoc]; rfl⟩
 ·
  intro _
  rw [zK S]
  rw [zI]
  refine zC <| qR V <| qL V V V V ta27 V <| qA V V V <| qN <| zZ ?_
  exact zC1 (.inr V) Try.results14 V (Sub.trans (.view _ _ _) (.of_eq (by rw [List.take_length]))) (zZ0 _ _) Vv
 ·
  intro j y hy hp
  cases hp
end Go.Proofs.Ytplclefbiimnbaa
namespace Go.Proofs.Ytplclefbiimnbaa
open Go Go.MV Go.RowKit
abbrev ltB (a b : Bs) : Prop := Op.bytesLess a b = true
theorem ltB_cons {x y : UInt8} {a b : Bs} : ltB (x :: a) (y :: b) ↔ x < y ∨ (x = y ∧ ltB a b) := by
 unfold ltB
 simp [Op.bytesLess]
theorem ltB_irrefl : ∀ a : Bs, ¬ ltB a a
 | [] => by simp [ltB, Op.bytesLess]
 | x :: a => by
  rw [ltB_cons]
  rintro (h | ⟨_, h⟩)
  ·exact UInt8.lt_irrefl _ h
  ·exact ltB_irrefl a h
theorem ltB_trans : ∀ {a b c : Bs}, ltB a b → ltB b c → ltB a c
 | _, [], _, h, _ => by simp [ltB, Op.bytesLess] at h
 | _, _ :: _, [], _, h => by simp [ltB, Op.bytesLess] at h
 | [], _ :: _, _ :: _, _, _ => by simp [ltB, Op.bytesLess]
 | x :: a, y :: b, z :: c, h1, h2 => by
  rw [ltB_cons] at h1 h2 ⊢
  rcases h1 with h1 | ⟨rfl, h1⟩
  ·rcases h2 with h2 | ⟨rfl, h2⟩
   ·exact .inl (UInt8.lt_trans h1 h2)
   ·exact .inl h1
  ·rcases h2 with h2 | ⟨rfl, h2⟩
   ·exact .inl h2
   ·exact .inr ⟨rfl, ltB_trans h1 h2⟩
def Up (l : List Bs) : Prop := l.Pairwise ltB
end Go.Proofs.Ytplclefbiimnbaa
namespace Go.Proofs.Ytplclefbiimnbaa
open Go Go.MV
def woT (s : Bs) (l : List Bs) : List Bs := l.filter fun x => !decide (x = s)
theorem wo_yes {s x : Bs} {l : List Bs} {i : Nat} (h : l[i]? = some x) (hx : ¬ x = s) : woT s (l.take (i + 1)) = woT s (l.take i) ++ [x] := by
 unfold woT
 rw [List.take_add_one, h, Option.toList_some, List.filter_append]
 simp [hx]
theorem wo_no {s x : Bs} {l : List Bs} {i : Nat} (h : l[i]? = some x) (hx : x = s) : woT s (l.take (i + 1)) = woT s (l.take i) := by
 unfold woT
 rw [List.take_add_one, h, Option.toList_some, List.filter_append]
 simp [hx]
theorem wo_len (s : Bs) (l : List Bs) : (woT s l).length ≤ l.length := List.length_filter_le _ _
theorem both_nil : ∀ l : List Bs, bothX l [] = l
 | [] => by rw [bothX]
 | x :: l => by rw [bothX, both_nil l]
def lowB (t : Bs) (x : List Bs) : Nat := (x.filter fun y => Op.bytesLess y t).length
theorem low_le (t : Bs) (x : List Bs) : lowB t x ≤ x.length := List.length_filter_le _ _
theorem low_lt {t : Bs} : ∀ {x : List Bs}, Up x → ∀ {h : Nat} {y : Bs}, x[h]? = some y → (Op.bytesLess y t = true ↔ h < lowB t x)
 | [], _, h, y, hs => by simp at hs
 | a :: l, hu, h, y, hs => by
  obtain ⟨h1, h2⟩ := List.pairwise_cons.1 hu
  by_cases ha : Op.bytesLess a t = true
  ·have e : lowB t (a :: l) = lowB t l + 1 := by unfold lowB; rw [List.filter_cons, if_pos ha]; rfl
   rw [e]
   cases h with
   | zero => simp at hs; subst hs; simp [ha]
   | succ h =>
    rw [low_lt h2 (h := h) (by simpa using hs)]
    omega
  ·have hn : ∀ z ∈ l, ¬ Op.bytesLess z t = true := fun z hz hh => ha (ltB_trans (h1 z hz) hh)
   have e : lowB t (a :: l) = 0 := by
    unfold lowB
    rw [List.filter_cons, if_neg ha, List.filter_eq_nil_iff.2 hn]; rfl
   rw [e]
   have hy : ¬ Op.bytesLess y t = true := by
    cases h with
    | zero => simp at hs; subst hs; exact ha
    | succ h => exact hn y (zE (by simpa using hs))
   simp [hy]
theorem low_mem {t : Bs} {x : List Bs} (hu : Up x) : t ∈ x ↔ x[lowB t x]? = some t := by
 constructor
 ·intro h
  obtain ⟨p, hp⟩ := List.getElem?_of_mem h
  have h1 : ¬ p < lowB t x := fun hh => ltB_irrefl _ ((low_lt hu hp).2 hh)
  rcases Nat.lt_or_eq_of_le (Nat.le_of_not_lt h1) with h2 | h2
  ·have hpl := (zB.1 hp).1
   obtain ⟨z, hz⟩ : ∃ z, x[lowB t x]? = some z := ⟨_, zA (by omega)⟩
   have hlt : Op.bytesLess z t = true := by
    have := List.pairwise_iff_getElem.1 hu (lowB t x) p (by omega) hpl h2
    rw [(zB.1 hz).2, (zB.1 hp).2] at this
    exact this
   exact absurd ((low_lt hu hz).1 hlt) (by omega)
  ·rw [h2]; exact hp
 ·exact fun h => zE h
theorem u64_nat {n : Nat} (h : n < 18446744073709551616) : IntKind.u64.wrap (n : Int) = (n : Int) := by
 simp [IntKind.wrap, IntKind.signed, IntKind.bits]
 omega
theorem i64_nat {n : Nat} (h : n < 9223372036854775808) : IntKind.i64.wrap (n : Int) = (n : Int) := by
 simp [IntKind.wrap, IntKind.signed, IntKind.bits]
 omega
theorem shr1_u64 {m : Nat} : Int.fdiv (m : Int) (2 ^ min ((1 : Int).toNat) IntKind.u64.bits) = ((m / 2 : Nat) : Int) := by
 rw [show min ((1 : Int).toNat) IntKind.u64.bits = 1 by decide, show (2 : Int) ^ 1 = ((2 : Nat) : Int) by decide, Int.fdiv_eq_ediv_of_nonneg _ (Int.natCast_nonneg _)]
 rfl
theorem get_s3 {A R : MS} {s o a b c s' o' : MObj} : ((A ++ [s, o, a, b, c]) ++ R)[(A ++ [s', o']).length]? = some a := by rw [zJ, zK, getElem?_own]; rfl
theorem get_s4 {A R : MS} {s o a b c s' o' : MObj} : ((A ++ [s, o, a, b, c]) ++ R)[(A ++ [s', o']).length + 1]? = some b := by rw [zJ, zK, Nat.add_assoc, getElem?_own]; rfl
theorem woL_cl {t d ty n : Nat} {xs a b : List Bs} {s : Bs} {o : MObj} (ht : t < d) (ho : o ∈ [MObj.cells [encX s], .cells [.lst (some t) 1 (xs.map encX)], .cells [.lst none 1 (a.map encX)], .cells [.lst none 1 (b.map encX)], .row ty 1 n]) : o.cl d := by
 simp only [List.mem_cons, List.not_mem_nil, or_false] at ho
 rcases ho with rfl | rfl | rfl | rfl | rfl
 ·intro x hx
  simp at hx
  subst hx
  exact cl_encX _ _
 ·intro x hx
  simp at hx
  subst hx
  exact cl_lstT ht (cl_encX _) encX_one
 ·intro x hx
  simp at hx
  subst hx
  exact zZ0 _ _
 ·intro x hx
  simp at hx
  subst hx
  exact zZ0 _ _
 ·exact trivial
theorem isNaNs_spec (x : Bs) (S : MS) : MCalls Try.prog 23 [encX x] S fun v σ' => v = .bool false ∧ σ' = S := by
 refine zW Try.func23 V Try.ntmps23 (zF V) ?_
 refine zC <| qR V <| qA V V V <| qN <| zC <| qR V <| qM V V V <| qM V V V <| qO V <| zN0 V V V V <| qA V V V <| qN <| zZ ?_
 exact zC1 (.inr V) Try.results23 V (.of_eq (by simp)) (.bool _) Vv
theorem isNaNx_spec (x : Bs) (S : MS) : MCalls Try.prog 22 [encX x] S fun v σ' => v = .bool false ∧ σ' = S := by
 refine zW Try.func22 V Try.ntmps22 (zF V) ?_
 refine zC <| qR V <| qA V V V <| qN <| zC <| qR V <| qM V V V <| qM V V V <| qO V <| zN0 V V V V <| qA V V V <| qN <| zZ ?_
 exact zC1 (.inr V) Try.results22 V (.of_eq (by simp)) (.bool _) Vv
theorem lessS_spec (x y : Bs) (S : MS) : MCalls Try.prog 21 [encX x, encX y] S fun v σ' => v = .bool (Op.bytesLess x y) ∧ σ' = S := by
 refine zW Try.func21 V Try.ntmps21 (zF V) ?_
 refine zC <| qR V <| qA V V V <| qN <| zC <| qR V <| qM V V V ?_
 refine qX V V V V co23 (isNaNs_spec x _) ?_
 refine qM V V V ?_
 refine zE1 (fun h7 => ?_) (fun h7 => ?_)
 ·
  refine qM V V V ?_
  refine qX V V V V co23 (isNaNs_spec y _) ?_
  refine qO V <| zG0 V V <| qP V V V V <| qM V V V ?_
  refine zE1 (fun h12 => ?_) (fun h12 => ?_)
  ·
   refine qS V <| qS V <| qS V <| qP V V V V <| qA V V V <| qN <| zZ ?_
   exact zC1 (.inr V) Try.results21 V (.of_eq (by first | (simp; done) | (simp_all; done))) (.bool _) Vv
  ·
   refine qM V V V <| qM V V V <| qO V <| zN0 V V V V <| qP V V V V <| qA V V V <| qN <| zZ ?_
   exact zC1 (.inr V) Try.results21 V (.of_eq (by first | (simp; done) | (simp_all; done))) (.bool _) Vv
 ·
  refine qS V <| qS V <| qS V <| qP V V V V <| qM V V V <| qM V V V <| qM V V V <| qO V <| zN0 V V V V <| qP V V V V <| qA V V V <| qN <| zZ ?_
  exact zC1 (.inr V) Try.results21 V (.of_eq (by first | (simp; done) | (simp_all; done))) (.bool _) Vv
theorem search_spec (l : List Bs) (t : Bs) (hu : Up l) (hl : l.length ≤ 100000) (S : MS) : MCalls Try.prog 19 [.lst none 1 (l.map encX), encX t] S fun v σ' => v = .tup [.int .i64 ((lowB t l : Nat) : Int), .bool (decide (t ∈ l))] ∧ σ' = S := by
 refine zW Try.func19 V Try.ntmps19 (zF V) ?_
 refine zC <| qR V <| qA V V V <| qA V V V <| qN <| zC <| qR V <| qM V V V <| qE V V zD V <| qA V V V <| qN <| zC <| qR V <| qM V V V <| qA V V V <| qA V V V <| qN <| zC <| zA0 ?_
 refine zD1 (α := Nat × Nat) [(0, _), (1, _), (6, _)] (fun x => [(7, .int .i64 (x.1 : Int)), (8, .int .i64 (x.2 : Int))]) (fun x => []) (fun x => x.1 ≤ lowB t l ∧ lowB t l ≤ x.2 ∧ x.2 ≤ l.length) (fun x => x.2 - x.1) (⟨0, l.length⟩) (.keep V (.keep V (.keep V (.nil)))) (.keep V (.eq V (by rw [zI]) (.nil))) (⟨by simp, low_le t l, Nat.le_refl _⟩) (V) ?_
 rintro ⟨i, j⟩ ⟨hi, hj, hjl⟩
 dsimp only at hi hj hjl ⊢
 refine zC <| zC <| qR V <| qM V V V <| qM V V V <| qC V V V V V <| qN ?_
 refine zS V (fun h15 => ?_) (fun h15 => ?_)
 ·
  have hij : i < j := by simpa using h15
  obtain ⟨y, hs⟩ : ∃ q, l[(i + j) / 2]? = some q := ⟨_, zA (by omega)⟩
  refine zQ <| zA0 <| zC <| qR V <| qM V V V <| qM V V V <| qO V <| zU V V V (wadd (a := i) (b := j) V (by omega)) ?_
  refine qO V <| op_convInt V Try.underlying3 Try.underlying52 V (u64_nat (show i + j < _ by omega)) ?_
  refine qO V <| op_shr V V V (by omega) (shr1_u64) ?_
  refine qO V <| op_convInt V Try.underlying52 Try.underlying3 V (i64_nat (show (i + j) / 2 < _ by omega)) ?_
  refine qA V V V <| qN <| zC <| qR V <| qM V V V <| qM V V V <| qO V <| zN V zD sz9 (by decide) V V V (zF0 hs) ?_
  refine qO V <| zM V V ta9 V <| qM V V V ?_
  refine qX V V V V co21 (lessS_spec y t _) ?_
  refine qN ?_
  refine zS V (fun h27 => ?_) (fun h27 => ?_)
  ·
   have hlt : (i + j) / 2 < lowB t l := (low_lt hu hs).1 h27
   refine qR V <| qM V V V <| qO V <| zU V V V (wadd (a := (i + j) / 2) (b := 1) V (by omega)) ?_
   refine qA V V V <| qN ?_
   refine ⟨⟨(i + j) / 2 + 1, j⟩, by dsimp only; omega, ⟨by dsimp only; omega, hj, hjl⟩, rfl, (.keep V (.keep V (.keep V (.nil)))), (.eq V (V) (.keep V (.nil)))⟩
  ·
   have hlt : ¬ (i + j) / 2 < lowB t l := fun hh => by have := (low_lt hu hs).2 hh; rw [this] at h27; cases h27
   refine qR V <| qM V V V <| qA V V V <| qN ?_
   refine ⟨⟨i, (i + j) / 2⟩, by dsimp only; omega, ⟨hi, by dsimp only; omega, by dsimp only; omega⟩, rfl, (.keep V (.keep V (.keep V (.nil)))), (.keep V (.eq V (V) (.nil)))⟩
 ·
  have hij : ¬ i < j := by simpa using h15
  have hii : i = lowB t l := by omega
  have hjj : j = lowB t l := by omega
  subst hii
  refine mwp_exit <| zC <| qR V <| qM V V V <| qM V V V <| qM V V V <| qC V V V V V <| qM V V V ?_
  refine zE1 (fun h35 => ?_) (fun h35 => ?_)
  ·
   obtain ⟨z, hs2⟩ : ∃ q, l[lowB t l]? = some q := ⟨_, zA (by simp at h35; omega)⟩
   refine qM V V V <| qM V V V <| qO V <| zN V zD sz9 (by decide) V V V (zF0 hs2) ?_
   refine qO V <| zM V V ta9 V <| qM V V V <| qO V <| zN0 V V V V <| qM V V V ?_
   refine zE1 (fun h42 => ?_) (fun h42 => ?_)
   ·
    have hfin : true = decide (t ∈ l) := by
     symm
     rw [decide_eq_true_iff, low_mem hu, hs2]
     simpa using h42
    refine qT V V V V <| qT V V V V <| qS V <| qP V V V V <| qP V V V V <| qA V V V <| qA V V V <| qN <| zZ ?_
    first | exact ret_tmp2 (.inr rfl) Try.results19 rfl rfl (.refl _) (.of_eq (congrArg MV.bool hfin)) (.int _ _) (.bool _) ⟨rfl, rfl⟩ | exact absurd h48 (by decide)
   ·
    have hfin : false = decide (t ∈ l) := by
     symm
     rw [decide_eq_false_iff_not, low_mem hu, hs2]
     simpa using h42
    refine qM V V V <| qM V V V <| qO V <| zN V zD sz9 (by decide) V V V (zF0 hs2) ?_
    refine qO V <| zM V V ta9 V ?_
    refine qX V V V V co22 (isNaNx_spec _ _) ?_
    refine qM V V V <| qS V <| qS V <| qP V V V V <| qP V V V V <| qP V V V V <| qA V V V <| qA V V V <| qN <| zZ ?_
    first | exact ret_tmp2 (.inr rfl) Try.results19 rfl rfl (.refl _) (.of_eq (congrArg MV.bool hfin)) (.int _ _) (.bool _) ⟨rfl, rfl⟩ | exact absurd h48 (by decide)
  ·
   have hfin : false = decide (t ∈ l) := by
    symm
    rw [decide_eq_false_iff_not, low_mem hu]
    intro hh
    have := (zB.1 hh).1
    simp at h35
    omega
   refine qT V V V V <| qT V V V V <| qT V V V V <| qT V V V V <| qS V <| qP V V V V <| qA V V V <| qA V V V <| qN <| zZ ?_
   first | exact ret_tmp2 (.inr rfl) Try.results19 rfl rfl (.refl _) (.of_eq (congrArg MV.bool hfin)) (.int _ _) (.bool _) ⟨rfl, rfl⟩ | exact absurd h48 (by decide)
theorem rowAt_spec (l : List Bs) (t : Bs) (hu : Up l) (hl : l.length ≤ 100000) (S : MS) : MCalls Try.prog 17 [.lst none 1 (l.map encX), encX t] S fun v σ' => v = .tup [.int .i64 ((lowB t l : Nat) : Int), .bool (decide (t ∈ l))] ∧ σ' = S := by
 refine zW Try.func17 V Try.ntmps17 (zF V) ?_
 refine zC <| qR V <| qA V V V <| qA V V V <| qN <| zC <| qR V <| qM V V V <| qM V V V ?_
 refine qX V V V V co19 (search_spec l t hu hl _) ?_
 refine qO V <| zJ0 V V V <| qO V <| zJ0 V V V <| qA V V V <| qA V V V <| qN <| zZ ?_
 exact ret_tmp2 (.inr V) Try.results17 V V (.refl _) (.refl _) (.int _ _) (.bool _) Vv
theorem rowsHas_spec (l : List Bs) (t : Bs) (hu : Up l) (hl : l.length ≤ 100000) (S : MS) : MCalls Try.prog 11 [.lst none 1 (l.map encX), encX t] S fun v σ' => v = .bool (decide (t ∈ l)) ∧ σ' = S := by
 refine zW Try.func11 V Try.ntmps11 (zF V) ?_
 refine zC <| qR V <| qA V V V <| qN <| zC <| qR V <| qM V V V <| qM V V V ?_
 refine qX V V V V co17 (rowAt_spec l t hu hl _) ?_
 refine qM V V V <| qO V <| zJ0 V V V <| qO V <| zJ0 V V V <| qA V V V <| qA V V V <| qN <| zC <| qR V <| qM V V V <| qA V V V <| qN <| zZ ?_
 exact zC1 (.inr V) Try.results11 V (.of_eq (V)) (.bool _) Vv
theorem rowsWith_spec (l : List Bs) (t : Bs) (hl : l.length ≤ 100000) (S : MS) : MCalls Try.prog 12 [.lst none 1 (l.map encX), encX t] S fun v σ' => v = .lst none 1 ((bothX l [t]).map encX) ∧ σ' = S := by
 refine zW Try.func12 V Try.ntmps12 (zF V) ?_
 refine zC <| qR V <| qA V V V <| qN <| zC <| qR V <| qM V V V <| qM V V V <| qO V <| op_buildSlice V zH el9 V V (by decide) (by decide) V V ?_
 refine qX V V V V co14 (rowsBoth_spec l [t] (by simp; omega) _) ?_
 refine qA V V V <| qN <| zZ ?_
 exact zC1 (.inr V) Try.results12 V (.refl _) (zZ0 _ _) Vv
theorem rowsWithout_spec (l : List Bs) (s : Bs) (hl : l.length ≤ 100000) (S : MS) : MCalls Try.prog 13 [.lst none 1 (l.map encX), encX s] S fun v σ' => v = .lst none 1 ((woT s l).map encX) ∧ σ' = S := by
 refine zW Try.func13 V Try.ntmps13 (zF V) ?_
 have hwi := with_iter l [] (by simp; omega) (S ++ [MObj.cells [encX s], MObj.cells [.lst0]]).length ((S ++ [MObj.cells [encX s], MObj.cells [.lst0]]).length + 1) (S.length + 6)
 rw [both_nil] at hwi
 refine zC <| qR V <| qB V V V V V <| qA V V V <| qN <| zC <| qR V <| qO V <| op_alloc' V zm27 V V <| qN <| zC <| zC <| qR V <| qM V V V ?_
 refine qX V V V V co18 ((with_spec l [] _).sub (.cons (.refl _) (.cons (.nil 1) .nil))) ?_
 rw [zK S]
 refine qN <| zA0 <| mwp_cellrow 1 9 1 V (Nat.le_refl _) V V ?_
 refine mwp_rangeB (ok := (fun σ => σ.length = S.length + 6 ∧ σ[(S ++ [MObj.cells [encX s], MObj.cells [.lst0]]).length]? = some (.cells [.lst none 1 (l.map encX)]) ∧ σ[(S ++ [MObj.cells [encX s], MObj.cells [.lst0]]).length + 1]? = some (.cells [.lst none 1 (([] : List Bs).map encX)]))) (ys := l.map fun x => [encX x]) .ret (.inl V) (fun j => true) (fun j => ([.cells [encX s], .cells [.lst (some (S.length + 4)) 1 ((woT s (l.take j)).map encX)], .cells [.lst none 1 (l.map encX)], .cells [.lst none 1 (([] : List Bs).map encX)], .row 9 1 (woT s (l.take j)).length] : MS)) (fun j => ([.cells [encX s], .cells [.lst (some (S.length + 4)) 1 ((woT s (l.take j)).map encX)], .cells [.lst none 1 (l.map encX)], .cells [.lst none 1 (([] : List Bs).map encX)], .row 9 1 (woT s (l.take j)).length] : MS)) (fun j => V) (fun j => V) V (fun j o ho n hn => woL_cl (by simp at hn; omega) ho) (fun j o ho n hn => woL_cl (by simp at hn; omega) ho) V co20 V (by simp) (hwi.weak fun σ h => h.1) (fun j => ⟨by simp only [zJ, zO, List.length_nil], get_s3, get_s4⟩) (fun j s q => ⟨by simp only [zJ, zO, List.length_nil], get_s3, get_s4⟩) V (fun y hy => by obtain ⟨i, _, rfl⟩ := List.mem_map.1 hy; rfl) ?_ ?_ ?_
 ·
  intro j y hy hbef L'
  rw [zL] at hy
  obtain ⟨x, hp, rfl⟩ := Option.map_eq_some_iff.1 hy
  have hjl := (zB.1 hp).1
  have htl := wo_len s (l.take j)
  rw [List.length_take] at htl
  refine qR V <| qA V V V <| qN ?_
  refine ⟨rfl, [], by rw [List.append_nil], ?_⟩
  rw [List.append_nil]
  refine zA0 <| zC <| qR V <| qM V V V <| qO V <| op_load_mid (m := encX s) V V V ta9 V <| qO V <| zN0 V V V V <| qN ?_
  refine zS V (fun h12 => ?_) (fun h12 => ?_)
  ·
   have hne : ¬ x = s := by simpa using h12
   refine qR V <| qO V <| op_load_mid V V V ta27 V <| qM V V V <| qO V <| op_buildSlice V zH el9 V V (by decide) (by decide) V V ?_
   refine qO V <| op_append_mid V zH el9 V V V (by simp) (by simp only [zI, zO, List.length_nil]; omega) (by simp only [zI, zO, List.length_nil]; omega) V ?_
   refine qO V <| op_store_mid V V V V sz27 V V (zF V) V <| qN ?_
   refine .inl ⟨rfl, rfl, [], ?_⟩
   rw [List.append_nil]
   first | (rw [wo_no hp heq]; done) | rw [wo_yes hp hne, List.map_append, len_snoc (l := woT s (l.take j)) (x := x)]; rfl
  ·
   have heq : x = s := by simpa using h12
   refine zQ ?_
   refine .inl ⟨rfl, rfl, [], ?_⟩
   rw [List.append_nil]
   first | (rw [wo_no hp heq]; done) | rw [wo_yes hp hne, List.map_append, len_snoc (l := woT s (l.take j)) (x := x)]; rfl
 ·
  intro _
  rw [zK S]
  rw [zI]
  refine zC <| qR V <| qL V V V V ta27 V <| qA V V V <| qN <| zZ ?_
  exact zC1 (.inr V) Try.results13 V (Sub.trans (.view _ _ _) (.of_eq (by rw [List.take_length]))) (zZ0 _ _) Vv
 ·
  intro j y hy hp
  cases hp
end Go.Proofs.Ytplclefbiimnbaa
namespace Go.MV
open Go Go.RowKit
section
section
variable {P : Program} {rd : Option Nat} {o : Oper} {env : Env} {σ : MS} {K : MV → MS → Prop}
end
def Sees (F : List (Nat × MObj)) (σ : MS) : Prop := ∀ p ∈ F, σ[p.1]? = some p.2
theorem Sees.app {F : List (Nat × MObj)} {A B : MS} (h : Sees F A) : Sees F (A ++ B) := fun p hp => get_app (h p hp)
theorem Sees.cons {F : List (Nat × MObj)} {A : MS} {i : Nat} {o : MObj} (h1 : A[i]? = some o) (h : Sees F A) : Sees ((i, o) :: F) A := fun p hp => by
 rcases List.mem_cons.1 hp with rfl | hp
 ·exact h1
 ·exact h p hp
theorem Sees.nil {A : MS} : Sees [] A := fun p hp => by cases hp
theorem ClS.app {A B : MS} (h : ClS A) (hB : ∀ o ∈ B, o.cl (A ++ B).length) : ClS (A ++ B) := by
 intro id o hid
 by_cases c : id < A.length
 ·rw [List.getElem?_append_left c] at hid
  have := h id o hid
  cases o with
  | cells l => exact fun x hx => (this x hx).mono (by simp)
  | loop s p ls => exact fun t x hx => (this t x hx).mono (by simp)
  | row _ _ _ => exact trivial
  | mp _ es => exact fun e he => (this e he).mono (by simp)
  | mit m _ _ _ => exact Nat.lt_of_lt_of_le this (by simp)
  | pin _ _ => exact trivial
  | tcells _ l => exact fun x hx => (this x hx).mono (by simp)
  | orow _ _ _ l => exact fun x hx => (this x hx).mono (by simp)
  | fixed _ _ => exact trivial
  | gone => exact trivial
 ·rw [List.getElem?_append_right (by omega)] at hid
  exact hB o (zE hid)
theorem YStep.frame {P : Program} {id : Nat} {xs : List MV} {S S' : MS} {b : Bool} (h : YStep P id xs S b S') (J : MS) : YStep P id xs (S ++ J) b (S' ++ J) := by
 intro L rd o env f args ts ho hf hx
 have := h (J ++ L) rd o env f args ts ho hf hx
 rwa [← zK, ← zK] at this
end
def encY (b : UInt8) : MV := .int .u8 (b.toNat : Int)
section
section
variable {P : Program} {rd : Option Nat} {o : Oper} {env : Env} {σ : MS} {K : MV → MS → Prop}
end
end
section
section
variable {P : Program} {rd : Option Nat} {o : Oper} {env : Env} {σ : MS} {K : MV → MS → Prop}
end
section
variable {P : Program} {rd : Option Nat} {N n : Nat} {c : Code} {Q : Exit → Env → MS → Prop} {env : Env} {S L : MS}
end
end
section
theorem Rel.obj_set {g g' : Gh} {σ : MS} {w w' : World} (h : Rel g σ w) {t : Nat} {mo : MObj} (htl : t < σ.length) {own : Nat → Option Nat} (ho : Owns g σ w own) (hl : Le g w g' w') (hb : Below g.B g.w0 w') (hfr : ∀ b, w'.heap.size ≤ b → g'.st b = 0) (hbk : g'.bk = g.bk)
  (hlg : ∀ id k, id ≠ t → g'.lg id k = g.lg id k) (hst : ∀ id b, id ≠ t → own id = some b → w'.heap[b]? = w.heap[b]? ∧ g'.st b = g.st b) {ob : Option Nat} (hob : ObjRel g' w' ob t mo) (hne : ∀ id b, id ≠ t → own id = some b → ob ≠ some b) (hblt : ∀ b, ob = some b → g.B ≤ b ∧ b < w'.heap.size) :
  Rel g' (σ.set t mo) w' := by
 refine ⟨by rw [hl.B, hl.w0]; exact hb, by rw [hl.B, hl.w0]; exact h.base, hfr, fun id hid => by rw [hbk]; exact h.bkn id (by simpa using hid), fun s k hs => by rw [hlg s k (by simp at hs; omega)]; exact h.lgn s k (by simpa using hs), fun id => if id = t then ob else own id, ⟨fun id o hid => ?_, fun i j b hi hj => ?_, fun id b hid => ?_⟩⟩
 ·by_cases e : id = t
  ·subst e
   simp only [if_true]
   rw [List.getElem?_set_self htl] at hid
   injection hid with hid
   subst hid
   exact hob
  ·rw [if_neg e]
   rw [List.getElem?_set_ne (fun h => e h.symm)] at hid
   exact (ho.obj id o hid).keep0 hl.toLe0 (fun b hb => hst id b e hb) fun k => hlg id k e
 ·by_cases ei : i = t
  ·by_cases ej : j = t
   ·omega
   ·simp only [ei, if_true] at hi
    simp only [ej, if_false] at hj
    exact absurd hi (hne j b ej hj)
  ·by_cases ej : j = t
   ·simp only [ej, if_true] at hj
    simp only [ei, if_false] at hi
    exact absurd hj (hne i b ei hi)
   ·simp only [ei, ej, if_false] at hi hj
    exact ho.inj i j b hi hj
 ·by_cases e : id = t
  ·subst e
   simp only [if_true] at hid
   obtain ⟨h1, h2⟩ := hblt b hid
   exact ⟨by simpa using htl, by rw [hl.B]; exact h1, h2⟩
  ·simp only [e, if_false] at hid
   obtain ⟨h1, h2, h3⟩ := ho.lt id b hid
   exact ⟨by simpa using h1, by rw [hl.B]; exact h2, Nat.lt_of_lt_of_le h3 hl.size⟩
section
variable {P : Program} {rd : Option Nat} {o : Oper} {env : Env} {σ : MS} {K : MV → MS → Prop}
end
end
end Go.MV
namespace Go.MV
open Go Go.RowKit Go.MapKept
section
abbrev ME := ByteArray × MV × Nat
theorem Rel.alloc_any {g : Gh} {σ : MS} {w : World} (h : Rel g σ w) (ob : Obj) (mo : MObj)
  (hob : ∀ g', Le g w g' (w.alloc ob) → g'.bk σ.length = some w.heap.size → g'.st w.heap.size = 0 → (w.alloc ob).heap[w.heap.size]? = some ob → ObjRel g' (w.alloc ob) (some w.heap.size) σ.length mo) :
  ∃ g', Rel g' (σ ++ [mo]) (w.alloc ob) ∧ Le g w g' (w.alloc ob) ∧ g'.bk σ.length = some w.heap.size := by
 have l1 := Le.alloc_stab h ob 0
 have r1 := h.alloc_stab ob 0
 have l2 : Le (g.stab w.heap.size 0) (w.alloc ob) ((g.stab w.heap.size 0).bind σ.length w.heap.size) (w.alloc ob) := Le.bind (r1.bkn σ.length (Nat.le_refl _))
 obtain ⟨own, ho⟩ := h.ex
 have ho' : Owns ((g.stab w.heap.size 0).bind σ.length w.heap.size) σ (w.alloc ob) own := by
  refine ho.keep (l1.trans l2) (fun id b e => ?_) (fun _ _ => V)
  have hlt := (ho.lt id b e).2.2
  refine ⟨Below.heap_alloc w ob b hlt, ?_⟩
  simp only [Gh.bind, Gh.stab]
  rw [if_neg (by omega)]
 refine ⟨(g.stab w.heap.size 0).bind σ.length w.heap.size, ⟨r1.below, r1.base, r1.fresh, fun id hid => ?_, fun t n ht => r1.lgn t n (by simp at ht; omega), ?_⟩, l1.trans l2, by simp [Gh.bind]⟩
 ·simp at hid
  simp only [Gh.bind]
  rw [if_neg (by omega)]
  exact r1.bkn id (by omega)
 ·refine ⟨fun id => if id = σ.length then some w.heap.size else own id, ⟨fun id o hid => ?_, fun i j b hi hj => ?_, fun id b hid => ?_⟩⟩
  ·by_cases e : id = σ.length
   ·subst e
    rw [List.getElem?_append_right (Nat.le_refl _)] at hid
    simp at hid
    subst hid
    simp only [if_true]
    exact hob _ (l1.trans l2) (by simp [Gh.bind]) (by simp [Gh.bind, Gh.stab]) (heap_new _ _)
   ·rw [if_neg e]
    have hlt : id < σ.length := by
     have := (zB.1 hid).1
     simp at this
     omega
    rw [List.getElem?_append_left hlt] at hid
    exact ho'.obj id o hid
  ·by_cases ei : i = σ.length <;> by_cases ej : j = σ.length
   ·omega
   ·simp only [ei, if_true] at hi
    simp only [ej, if_false] at hj
    have := (ho.lt j b hj).2.2
    injection hi with hi
    omega
   ·simp only [ej, if_true] at hj
    simp only [ei, if_false] at hi
    have := (ho.lt i b hi).2.2
    injection hj with hj
    omega
   ·simp only [ei, ej, if_false] at hi hj
    exact ho.inj i j b hi hj
  ·by_cases e : id = σ.length
   ·simp only [e, if_true] at hid
    injection hid with hid
    subst hid
    exact ⟨by simp [e], h.size, by simp⟩
   ·simp only [e, if_false] at hid
    obtain ⟨h1, h2, h3⟩ := ho'.lt id b hid
    exact ⟨by simp; omega, h2, h3⟩
theorem Rel.turn {g : Gh} {σ : MS} {w : World} (h : Rel g σ w) {id b : Nat} {mo mo' : MObj} {o0 o1 : Obj} (hσ : σ[id]? = some mo) {own : Nat → Option Nat} (ho : Owns g σ w own) (hid : own id = some b) (hst : g.st b = 0) (hb : w.heap[b]? = some o0) (hnd : ∀ x, o0 ≠ .deferred x)
  (hob : Le g w g { w with heap := w.heap.setIfInBounds b o1 } → ({ w with heap := w.heap.setIfInBounds b o1 } : World).heap[b]? = some o1 → ObjRel g { w with heap := w.heap.setIfInBounds b o1 } (some b) id mo') :
  Rel g (σ.set id mo') { w with heap := w.heap.setIfInBounds b o1 } ∧ Le g w g { w with heap := w.heap.setIfInBounds b o1 } := by
 have hlt : b < w.heap.size := (Array.getElem?_eq_some_iff.1 hb).1
 have hne : ∀ c, c ≠ b → ({ w with heap := w.heap.setIfInBounds b o1 } : World).heap[c]? = w.heap[c]? := fun c hc => by
  show (w.heap.setIfInBounds b _)[c]? = _
  rw [Array.getElem?_setIfInBounds_ne (fun e => hc e.symm)]
 have hself : ({ w with heap := w.heap.setIfInBounds b o1 } : World).heap[b]? = some o1 := by
  show (w.heap.setIfInBounds b _)[b]? = _
  rw [Array.getElem?_setIfInBounds_self_of_lt hlt]
 have hl : Le g w g { w with heap := w.heap.setIfInBounds b o1 } := by
  refine ⟨⟨rfl, rfl, fun c k hk => ⟨hk, ?_⟩, fun _ _ h => h, fun _ _ _ h => h, by simp⟩, fun c x hx => ?_⟩
  ·refine World.cell?_of_block (w := w) (hne _ ?_)
   rintro rfl
   rw [hst] at hk
   omega
  ·by_cases e : c = b
   ·subst e
    rw [hb] at hx
    injection hx with hx
    exact absurd hx (hnd x)
   ·exact (hne c e).trans hx
 have htl : id < σ.length := (zB.1 hσ).1
 have hB := (ho.lt id b hid).2.1
 refine ⟨Rel.obj_set h htl ho hl ⟨h.below.os, h.below.tape, h.below.output, by simpa using h.below.size, fun k hk => (hne k (by omega)).trans (h.below.block k hk)⟩ (fun c hc => h.fresh c (by simpa using hc)) V (fun _ _ _ => V) (fun i c hi hc => ⟨hne c ?_, rfl⟩) (hob hl hself) (fun i c hi hc e => ?_) (fun c hc => ?_), hl⟩
 ·rintro rfl
  exact hi (ho.inj _ _ _ hc hid)
 ·injection e with e
  subst e
  exact hi (ho.inj _ _ _ hc hid)
 ·injection hc with hc
  subst hc
  exact ⟨hB, by simpa using hlt⟩
def mpIdx (s : ByteArray) : List ME → Option Nat
 | [] => none
 | e :: es => if e.1 = s then some 0 else (mpIdx s es).map (· + 1)
def mpLook (s : ByteArray) : List ME → Option MV
 | [] => none
 | e :: es => if e.1 = s then some e.2.1 else mpLook s es
def mpPut (clk : Nat) (s : ByteArray) (v : MV) (es : List ME) : List ME := match mpIdx s es with
 | some i => es.modify i fun e => (e.1, v, e.2.2)
 | none => es ++ [(s, v, clk)]
def mpClk (clk : Nat) (s : ByteArray) (es : List ME) : Nat := match mpIdx s es with
 | some _ => clk
 | none => clk + 1
theorem mpIdx_some {s : ByteArray} : ∀ {es : List ME} {i : Nat}, mpIdx s es = some i → ∃ v n, es[i]? = some (s, v, n) ∧ mpLook s es = some v
 | [], i, h => by cases h
 | (k, v, n) :: es, i, h => by
  simp only [mpIdx] at h
  by_cases e : k = s
  ·rw [if_pos e] at h
   injection h with h
   subst h e
   exact ⟨v, n, rfl, by simp [mpLook]⟩
  ·rw [if_neg e] at h
   cases hi : mpIdx s es with
   | none => rw [hi] at h; cases h
   | some j =>
    rw [hi] at h
    injection h with h
    subst h
    obtain ⟨u, m, h1, h2⟩ := mpIdx_some hi
    exact ⟨u, m, by simpa using h1, by simp [mpLook, e, h2]⟩
theorem mpIdx_none {s : ByteArray} : ∀ {es : List ME}, mpIdx s es = none → (∀ e ∈ es, e.1 ≠ s) ∧ mpLook s es = none
 | [], h => ⟨by simp, rfl⟩
 | (k, v, n) :: es, h => by
  simp only [mpIdx] at h
  by_cases e : k = s
  ·rw [if_pos e] at h; cases h
  ·rw [if_neg e] at h
   cases hi : mpIdx s es with
   | some j => rw [hi] at h; cases h
   | none =>
    obtain ⟨h1, h2⟩ := mpIdx_none hi
    refine ⟨fun x hx => ?_, by simp [mpLook, e, h2]⟩
    rcases List.mem_cons.1 hx with rfl | hx
    ·exact e
    ·exact h1 x hx
theorem MapRel.get {g : Gh} {w : World} {es : List ME} {ents : List MapEntry} (h : MapRel g w es ents) {j : Nat} {e : ME} (he : es[j]? = some e) : ∃ x, ents[j]? = some x ∧ x.key = .string e.1 ∧ x.born = e.2.2 ∧ Rd g w e.2.1 x.val := by
 have hlt : j < ents.length := by rw [h.1]; exact (zB.1 he).1
 obtain ⟨h1, h2⟩ := h.2 j e ents[j] he (zA hlt)
 exact ⟨_, zA hlt, h1.1, h1.2, h2⟩
theorem MapRel.get' {g : Gh} {w : World} {es : List ME} {ents : List MapEntry} (h : MapRel g w es ents) {j : Nat} {x : MapEntry} (hx : ents[j]? = some x) : ∃ e, es[j]? = some e ∧ x.key = .string e.1 ∧ x.born = e.2.2 ∧ Rd g w e.2.1 x.val := by
 have hlt : j < es.length := by rw [← h.1]; exact (zB.1 hx).1
 obtain ⟨h1, h2⟩ := h.2 j es[j] x (zA hlt) hx
 exact ⟨_, zA hlt, h1.1, h1.2, h2⟩
theorem MapRel.mono {g g' : Gh} {w w' : World} (hl : Le g w g' w') {es : List ME} {ents : List MapEntry} (h : MapRel g w es ents) : MapRel g' w' es ents := ⟨h.1, fun j e x he hx => ⟨(h.2 j e x he hx).1, (h.2 j e x he hx).2.mono hl⟩⟩
theorem findNow_rel {g : Gh} {w : World} {s : ByteArray} : ∀ {es : List ME} {ents : List MapEntry} (i : Nat), MapRel g w es ents →
  (mpIdx s es = none ∧ Instr.findNow .string (.string s) ents i = some none) ∨ ∃ j x, mpIdx s es = some j ∧ ents[j]? = some x ∧ Instr.findNow .string (.string s) ents i = some (some (i + j, x.val))
 | [], [], i, h => .inl ⟨rfl, rfl⟩
 | [], x :: ents, i, h => by have := h.1; simp at this
 | e :: es, [], i, h => by have := h.1; simp at this
 | e :: es, x :: ents, i, h => by
  obtain ⟨⟨h1, _⟩, h2⟩ := h.2 0 e x rfl rfl
  have ht : MapRel g w es ents := ⟨by simpa using h.1, fun j e x he hx => h.2 (j + 1) e x (by simpa using he) (by simpa using hx)⟩
  have hs : Instr.sameNow .string (.string s) x.key = some (s == e.1) := by rw [h1]; rfl
  by_cases hk : e.1 = s
  ·right
   have hb : (s == e.1) = true := (bytes_beq _ _).2 hk.symm
   exact ⟨0, x, by simp [mpIdx, hk], rfl, by simp only [Instr.findNow, hs, hb]; rfl⟩
  ·have hb : (s == e.1) = false := by
    cases hq : (s == e.1) with
    | false => rfl
    | true => exact absurd ((bytes_beq _ _).1 hq).symm hk
   rcases findNow_rel (s := s) (i + 1) ht with ⟨k1, k2⟩ | ⟨j, y, k1, k2, k3⟩
   ·left
    exact ⟨by simp [mpIdx, hk, k1], by simp only [Instr.findNow, hs, hb]; exact k2⟩
   ·right
    refine ⟨j + 1, y, by simp [mpIdx, hk, k1], by simpa using k2, ?_⟩
    simp only [Instr.findNow, hs, hb]
    rw [k3, show i + 1 + j = i + (j + 1) by omega]
def zeroV (P : Program) (t : TypeId) : Option MV := match P.info? t with
 | some i => match i.zero with
  | some z => constMV z
  | none => none
 | none => none
theorem zeroV_some {P : Program} {t : TypeId} {m : MV} (h : zeroV P t = some m) : ∃ z, (∀ w, (zeroValue t).run P w = .ok z w) ∧ ∀ g w, Rd g w m z := by
 unfold zeroV at h
 split at h
 ·rename_i i hi
  split at h
  ·rename_i z hz
   exact ⟨z, fun w => by simp [zeroValue, typeInfo, hi, hz], fun g w => constMV_rd _ _ h⟩
  ·cases h
 ·cases h
def mapTy (P : Program) (t e : TypeId) : Bool := match P.underlying t with
 | some (.map k e') => Nat.beq e' e && (match P.underlying k with | some .string => true | _ => false)
 | _ => false
theorem mapTy_spec {P : Program} {t e : TypeId} (h : mapTy P t e = true) : ∃ k, P.underlying t = some (.map k e) ∧ P.underlying k = some .string := by
 unfold mapTy at h
 split at h
 ·rename_i k e' hu
  simp only [Bool.and_eq_true] at h
  have := Nat.eq_of_beq_eq_true h.1
  subst this
  refine ⟨k, hu, ?_⟩
  have h2 := h.2
  split at h2
  ·assumption
  ·cases h2
 ·cases h
section
variable {P : Program} {rd : Option Nat} {o : Oper} {env : Env} {σ : MS} {K : MV → MS → Prop}
theorem rel_map {g : Gh} {w : World} (hr : Rel g σ w) {id clk : Nat} {es : List ME} {v : Value} (hv : Rd g w (.map id) v) (hσ : σ[id]? = some (.mp clk es)) :
  ∃ b ents own, v = .map (some b) ∧ Owns g σ w own ∧ own id = some b ∧ g.bk id = some b ∧ g.st b = 0 ∧ w.heap[b]? = some (.map ents clk) ∧ MapRel g w es ents.toList := by
 obtain ⟨b, hb, rfl⟩ := hv.inv_map
 obtain ⟨own, ho⟩ := hr.ex
 obtain ⟨b', ents, h1, h2, h3, h4, h5⟩ := ho.obj _ _ hσ
 rw [hb] at h2
 injection h2 with h2
 subst h2
 exact ⟨b, ents, own, rfl, ho, h1, hb, h3, h4, h5⟩
theorem op_makeMap {t : TypeId} (ho : o.op = .makeMap t none) (h : K (.map σ.length) (σ ++ [.mp 0 []])) : OpWp P rd o env σ K := by
 refine OpWp.of_run (by simp [ho]) fun g w a hr hop => ?_
 obtain ⟨g', h1, h2, h3⟩ := hr.alloc_any (.map #[] 0) (.mp 0 []) fun g' hl hb hst hh => ⟨w.heap.size, #[], rfl, hb, hst, hh, rfl, fun j e x he => by simp at he⟩
 refine ⟨.map (some w.heap.size), w.alloc (.map #[] 0), ?_, _, _, g', h, h1, .map _ _ h3, h2⟩
 simp [execOp, ho, Instr.makeMap, newObj]
 rfl
theorem run_lookup {g : Gh} {w : World} {t e : TypeId} {clk b : Nat} {es : List ME} {ents : Array MapEntry} {s : ByteArray} {z : MV} {c : Bool} (ht : mapTy P t e = true) (hz : zeroV P e = some z) (hb : w.heap[b]? = some (.map ents clk)) (hm : MapRel g w es ents.toList) :
  ∃ v, (Instr.lookup t (.map (some b)) (.string s) c).run P w = .ok (if c then .tuple #[v, .bool (mpLook s es).isSome] else v) w ∧ Rd g w ((mpLook s es).getD z) v := by
 obtain ⟨k, hu, hk⟩ := mapTy_spec ht
 obtain ⟨zv, hz1, hz2⟩ := zeroV_some hz
 have hck : (Instr.checkKey ents.isEmpty 10000 k (.string s)).run P w = .ok () w := run_checkKey hk (k := .string s) trivial _ 9999
 rcases findNow_rel (s := s) 0 hm with ⟨h1, h2⟩ | ⟨j, x, h1, h2, h3⟩
 ·refine ⟨zv, ?_, ?_⟩
  ·have hf := run_findKey (P := P) (w := w) hk h2
   rw [(mpIdx_none h1).2]
   simp [Instr.lookup, run_underlying hu, MapKept.run_getObj_map hb, hck, hf, hz1, Result.andThen]
  ·rw [(mpIdx_none h1).2]
   exact hz2 g w
 ·obtain ⟨v, n, k1, k2⟩ := mpIdx_some h1
  obtain ⟨y, q1, q2, q3, q4⟩ := hm.get k1
  rw [h2] at q1
  injection q1 with q1
  subst q1
  refine ⟨x.val, ?_, ?_⟩
  ·have hf := run_findKey (P := P) (w := w) hk h3
   rw [k2]
   simp [Instr.lookup, run_underlying hu, MapKept.run_getObj_map hb, hck, hf, Result.andThen]
  ·rw [k2]
   exact q4
theorem op_lookup {t e : TypeId} {x y : Operand} {id clk : Nat} {es : List ME} {s : ByteArray} {z m : MV} (ho : o.op = .lookup t x y false) (ht : mapTy P t e = true) (hz : zeroV P e = some z) (hx : evo env x = some (.map id)) (hy : evo env y = some (.str s)) (hσ : σ[id]? = some (.mp clk es))
  (hm : (mpLook s es).getD z = m) (h : K m σ) : OpWp P rd o env σ K := by
 refine OpWp.of_run (by simp [ho]) fun g w a hr hop => ?_
 obtain ⟨b, ents, own, e1, h1, h2, h3, h4, h5, h6⟩ := rel_map hr (hop x (by simp [ho, Op.operands]) _ hx) hσ
 have e2 := (hop y (by simp [ho, Op.operands]) _ hy).inv_str
 obtain ⟨v, hv, hrd⟩ := run_lookup (P := P) (s := s) (c := false) ht hz h5 h6
 rw [hm] at hrd
 exact ⟨v, w, by simp [execOp, ho, e1, e2, hv], .same h hr hrd⟩
theorem op_lookup_ok {t e : TypeId} {x y : Operand} {id clk : Nat} {es : List ME} {s : ByteArray} {z m : MV} {c : Bool} (ho : o.op = .lookup t x y true) (ht : mapTy P t e = true) (hz : zeroV P e = some z) (hx : evo env x = some (.map id)) (hy : evo env y = some (.str s)) (hσ : σ[id]? = some (.mp clk es))
  (hm : (mpLook s es).getD z = m) (hc : (mpLook s es).isSome = c) (h : K (.tup [m, .bool c]) σ) : OpWp P rd o env σ K := by
 refine OpWp.of_run (by simp [ho]) fun g w a hr hop => ?_
 obtain ⟨b, ents, own, e1, h1, h2, h3, h4, h5, h6⟩ := rel_map hr (hop x (by simp [ho, Op.operands]) _ hx) hσ
 have e2 := (hop y (by simp [ho, Op.operands]) _ hy).inv_str
 obtain ⟨v, hv, hrd⟩ := run_lookup (P := P) (s := s) (c := true) ht hz h5 h6
 rw [hm] at hrd
 rw [hc] at hv
 exact ⟨.tuple #[v, .bool c], w, by simp [execOp, ho, e1, e2, hv], .same h hr (.tup' (.cons hrd (.cons (.bool _) (.nil _ _))))⟩
theorem MapRel.push {g : Gh} {w : World} {es : List ME} {ents : Array MapEntry} (h : MapRel g w es ents.toList) {s : ByteArray} {m : MV} {v : Value} {n : Nat} (hr : Rd g w m v) : MapRel g w (es ++ [(s, m, n)]) (ents.push { key := .string s, val := v, born := n }).toList := by
 refine ⟨by simpa using h.1, fun j e x he hx => ?_⟩
 have hl := h.1
 rw [Array.toList_push] at hx
 by_cases hj : j < es.length
 ·rw [List.getElem?_append_left hj] at he
  rw [List.getElem?_append_left (by omega)] at hx
  exact h.2 j e x he hx
 ·rw [List.getElem?_append_right (by omega)] at he
  rw [List.getElem?_append_right (by omega), hl] at hx
  have : j - es.length = 0 := by
   have := (zB.1 he).1
   simp at this
   omega
  rw [this] at he hx
  simp at he hx
  subst he hx
  exact ⟨⟨rfl, rfl⟩, hr⟩
theorem MapRel.modify {g : Gh} {w : World} {es : List ME} {ents : Array MapEntry} (h : MapRel g w es ents.toList) {i : Nat} {f : ME → ME} {f' : MapEntry → MapEntry} (hf : ∀ e x, es[i]? = some e → ents.toList[i]? = some x → ((f' x).key = .string (f e).1 ∧ (f' x).born = (f e).2.2) ∧ Rd g w (f e).2.1 (f' x).val) : MapRel g w (es.modify i f) (ents.modify i f').toList := by
 refine ⟨by simpa using h.1, fun j e x he hx => ?_⟩
 rw [Array.toList_modify] at hx
 rw [List.getElem?_modify] at he hx
 by_cases hj : i = j
 ·subst hj
  simp only [if_true] at he hx
  cases he' : es[i]? with
  | none => rw [he'] at he; cases he
  | some e0 =>
   cases hx' : ents.toList[i]? with
   | none => rw [hx'] at hx; cases hx
   | some x0 =>
    rw [he'] at he
    rw [hx'] at hx
    simp at he hx
    subst he hx
    exact hf e0 x0 he' hx'
 ·simp only [if_neg hj] at he hx
  exact h.2 j e x (by simpa using he) (by simpa using hx)
theorem op_mapUpdate {t e : TypeId} {x y u : Operand} {id clk : Nat} {es : List ME} {s : ByteArray} {m : MV} (ho : o.op = .mapUpdate t x y u ∨ o.op = .insert t x y u) (ht : mapTy P t e = true) (hx : evo env x = some (.map id)) (hy : evo env y = some (.str s)) (hu : evo env u = some m) (hσ : σ[id]? = some (.mp clk es))
  (h : K (.tup []) (σ.set id (.mp (mpClk clk s es) (mpPut clk s m es)))) : OpWp P rd o env σ K := by
 have hopd : o.op.operands = #[x, y, u] := by rcases ho with ho | ho <;> rw [ho] <;> rfl
 refine OpWp.of_skip (by rcases ho with ho | ho <;> simp [ho]) fun g w a hr hop => ?_
 obtain ⟨b, ents, own, e1, h1, h2, h3, h4, h5, h6⟩ := rel_map hr (hop x (by simp [hopd]) _ hx) hσ
 have e2 := (hop y (by simp [hopd]) _ hy).inv_str
 have e3 := hop u (by simp [hopd]) _ hu
 obtain ⟨k, hu, hk⟩ := mapTy_spec ht
 have hck : (Instr.checkKey false 10000 k (.string s)).run P w = .ok () w := run_checkKey hk (k := .string s) trivial _ 9999
 have hex : ∀ w', (Instr.mapUpdate t (.map (some b)) (.string s) (a.eval u)).run P w = .ok () w' → (execOp a.eval o).run P w = .ok .skip w' := fun w' hw => by rcases ho with ho | ho <;> simp [execOp, ho, e1, e2, hw]
 rcases findNow_rel (s := s) 0 h6 with ⟨k1, k2⟩ | ⟨j, xe, k1, k2, k3⟩
 ·obtain ⟨r1, l1⟩ := hr.turn (mo' := .mp (clk + 1) (es ++ [(s, m, clk)])) (o1 := .map (ents.push { key := .string s, val := a.eval u, born := clk }) (clk + 1)) hσ h1 h2 h4 h5 (fun _ h => by cases h) fun hl hh => ⟨b, _, rfl, hl.bk _ _ h3, h4, hh, (h6.mono hl).push (e3.mono hl)⟩
  refine ⟨_, hex _ ?_, .tup [], _, g, h, ?_, .tup' (.nil _ _), l1⟩
  ·have hf := run_findKey (P := P) (w := w) hk k2
   simp [Instr.mapUpdate, run_underlying hu, MapKept.run_getObj_map h5, hck, hf, MapKept.run_setObj_map _ h5, Result.andThen, h5] <;> skip
  ·simp only [mpClk, mpPut, k1]
   exact r1
 ·have hl : j < ents.size := by have := (zB.1 k2).1; simpa using this
  have hxj : ents[j]? = some xe := by simpa using k2
  obtain ⟨v, n, q1, q2⟩ := mpIdx_some k1
  obtain ⟨y', q3, q4, q5, q6⟩ := h6.get q1
  rw [k2] at q3
  injection q3 with q3
  subst q3
  obtain ⟨r1, l1⟩ := hr.turn (mo' := .mp clk (es.modify j fun e => (e.1, m, e.2.2))) (o1 := .map (ents.modify j fun e => { e with key := .string s, val := a.eval u }) clk) hσ h1 h2 h4 h5 (fun _ h => by cases h) fun hl hh => ⟨b, _, rfl, hl.bk _ _ h3, h4, hh, (h6.mono hl).modify fun e x he hx => by
   rw [q1] at he
   injection he with he
   subst he
   rw [k2] at hx
   injection hx with hx
   subst hx
   exact ⟨⟨rfl, q5⟩, e3.mono hl⟩⟩
  refine ⟨_, hex _ ?_, .tup [], _, g, h, ?_, .tup' (.nil _ _), l1⟩
  ·have hf := run_findKey (P := P) (w := w) hk k3
   have hstay := run_keyThatStays (P := P) (w := w) (d := .string) (k := .string s) trivial
   simp [Instr.mapUpdate, run_underlying hu, MapKept.run_getObj_map h5, hck, hf, hxj, q4, hstay, MapKept.run_setObj_map _ h5, Result.andThen]
  ·simp only [mpClk, mpPut, k1]
   exact r1
theorem op_len_map {x : Operand} {id clk : Nat} {es : List ME} {t e : TypeId} (ho : o.op = .call { callee := .builtin .len, args := #[x], argTypes := #[t] }) (ht : mapTy P t e = true) (hx : evo env x = some (.map id)) (hσ : σ[id]? = some (.mp clk es)) (h : K (.int .i64 (es.length : Int)) σ) : OpWp P rd o env σ K := by
 refine OpWp.of_run (by simp [ho]) fun g w a hr hop => ?_
 obtain ⟨b, ents, own, e1, h1, h2, h3, h4, h5, h6⟩ := rel_map hr (hop x (by simp [ho, Op.operands, Call.operands]) _ hx) hσ
 obtain ⟨k, hu, hk⟩ := mapTy_spec ht
 have hs : ents.size = es.length := by have := h6.1; simpa using this
 refine ⟨.int .i64 es.length, w, ?_, .same h hr (.int _ _)⟩
 simp [execOp, ho, resolve, invoke, builtin, Builtin.len_, run_underlying hu, e1, MapKept.run_getObj_map h5, goInt, hs, Result.andThen]
theorem op_range_map {t e : TypeId} {x : Operand} {id clk : Nat} {es : List ME} (ho : o.op = .range t x) (ht : mapTy P t e = true) (hx : evo env x = some (.map id)) (hσ : σ[id]? = some (.mp clk es)) (h : K (.ref σ.length 0) (σ ++ [.mit id clk [] clk])) : OpWp P rd o env σ K := by
 refine OpWp.of_run (by simp [ho]) fun g w a hr hop => ?_
 obtain ⟨b, ents, own, e1, h1, h2, h3, h4, h5, h6⟩ := rel_map hr (hop x (by simp [ho, Op.operands]) _ hx) hσ
 obtain ⟨k, hu, hk⟩ := mapTy_spec ht
 obtain ⟨g', r1, l1, b1⟩ := hr.alloc_any (.mapIter (some b) clk #[] clk) (.mit id clk [] clk) fun g' hl hb hst hh => ⟨w.heap.size, b, rfl, hb, hst, hl.bk _ _ h3, hh⟩
 refine ⟨_, _, ?_, _, _, g', h, r1, .ref _ _ _ b1, l1⟩
 simp [execOp, ho, e1, run_range_map w t k e b ents clk hu h5]
theorem rel_iter {g : Gh} {w : World} (hr : Rel g σ w) {id off m since last : Nat} {seen : List Nat} {v : Value} (hv : Rd g w (.ref id off) v) (hσ : σ[id]? = some (.mit m since seen last)) :
  ∃ b bm own, v = .pointer (some ⟨b, off, none⟩) ∧ Owns g σ w own ∧ own id = some b ∧ g.bk id = some b ∧ g.st b = 0 ∧ g.bk m = some bm ∧ w.heap[b]? = some (.mapIter (some bm) since seen.toArray last) := by
 obtain ⟨b, hb, rfl⟩ := hv.inv_ref
 obtain ⟨own, ho⟩ := hr.ex
 obtain ⟨b', bm, h1, h2, h3, h4, h5⟩ := ho.obj _ _ hσ
 rw [hb] at h2
 injection h2 with h2
 subst h2
 exact ⟨b, bm, own, rfl, ho, h1, hb, h3, h4, h5⟩
theorem op_next_map {x : Operand} {id m since last clk : Nat} {seen : List Nat} {es : List ME} (ho : o.op = .next x false) (hx : evo env x = some (.ref id 0)) (hσ : σ[id]? = some (.mit m since seen last)) (hm : σ[m]? = some (.mp clk es)) (hold : ∀ e ∈ es, e.2.2 < since) (hsl : since ≤ last)
  (h0 : (∀ e ∈ es, e.2.2 ∈ seen) → K (.tup [.bool false]) σ) (h1 : ∀ e ∈ es, e.2.2 ∉ seen → K (.tup [.bool true, .str e.1, e.2.1]) (σ.set id (.mit m since (seen ++ [e.2.2]) clk))) : OpWp P rd o env σ K := by
 refine OpWp.of_run (by simp [ho]) fun g w a hr hop => ?_
 obtain ⟨b, bm, own, e1, ho', p2, p3, p4, p5, p6⟩ := rel_iter hr (hop x (by simp [ho, Op.operands]) _ hx) hσ
 obtain ⟨b2, ents, q1, q2, q3, q4, q5⟩ := ho'.obj _ _ hm
 rw [p5] at q2
 injection q2 with q2
 subst q2
 have holdE : ∀ y ∈ ents.toList, y.born < since := fun y hy => by
  obtain ⟨j, hj⟩ := List.getElem?_of_mem hy
  obtain ⟨e, he, _, hb, _⟩ := q5.get' hj
  rw [hb]
  exact hold e (zE he)
 rcases run_next_at (P := P) w o.type b bm since last seen.toArray ents clk p6 q4 holdE hsl with ⟨k0, k1⟩ | ⟨e, he, w1, hal, hrun⟩
 ·refine ⟨.tuple #[.bool false], w, by simp [execOp, ho, e1, k1], .same (h0 fun e he => ?_) hr (.tup' (.cons (.bool _) (.nil _ _)))⟩
  obtain ⟨j, hj⟩ := List.getElem?_of_mem he
  obtain ⟨y, hy, _, hb, _⟩ := q5.get hj
  have hmem : y ∈ ents.toList := zE hy
  cases hc : seen.toArray.contains y.born with
  | true => rw [hb] at hc; simpa using hc
  | false =>
   have : y ∈ (leftOf ents seen.toArray).toList := Array.mem_toList_iff.2 (Array.mem_filter.2 ⟨Array.mem_toList_iff.1 hmem, by rw [hc]; rfl⟩)
   have h3 : 0 < (leftOf ents seen.toArray).toList.length := List.length_pos_of_mem this
   rw [Array.length_toList, k0] at h3
   omega
 ·obtain ⟨hem, hes⟩ := mem_left he
  obtain ⟨j, hj⟩ := List.getElem?_of_mem hem
  obtain ⟨e', he', r1, r2, r3⟩ := q5.get' hj
  have hk := h1 e' (zE he') (by rw [← r2]; simpa using hes)
  have hr1 : Rel g σ w1 := by
   rcases hal with h | h
   ·exact h ▸ hr
   ·exact h ▸ hr.drew
  have hl1 : Le g w g w1 := by
   rcases hal with h | h
   ·exact h ▸ Le.refl _ _
   ·exact h ▸ Le.drew _ _
  have hh1 : w1.heap[b]? = some (.mapIter (some bm) since seen.toArray last) := by rcases hal with rfl | rfl <;> exact p6
  have ho1 : Owns g σ w1 own := by
   rcases hal with rfl | rfl
   ·exact ho'
   ·exact ho'.keep (Le.drew g w) (fun _ _ _ => ⟨rfl, rfl⟩) (fun _ _ => rfl)
  obtain ⟨r4, l4⟩ := hr1.turn (mo' := .mit m since (seen ++ [e'.2.2]) clk) (o1 := .mapIter (some bm) since (seen.toArray.push e.born) clk) hσ ho1 p2 p4 hh1 (fun _ h => by cases h) fun hl hh => ⟨b, bm, rfl, hl.bk _ _ p3, p4, hl.bk _ _ p5, by rw [hh, r2]; simp⟩
  refine ⟨.tuple #[.bool true, e.key, e.val], _, by simp [execOp, ho, e1, hrun]; rfl, _, _, g, hk, r4, .tup' (.cons (.bool _) (.cons ?_ (.cons (r3.mono (hl1.trans l4)) (.nil _ _)))), hl1.trans l4⟩
  rw [r1]
  exact .str _
theorem op_entry_map {x : Operand} {id m since last : Nat} {seen : List Nat} {es : List ME} {e : ME} (ho : o.op = .entry x) (hx : evo env x = some (.ref id 0)) (hσ : σ[id]? = some (.mit m since (seen ++ [e.2.2]) last)) (hm : σ[m]? = some (.mp last es)) (he : e ∈ es) (hn : (es.map (·.2.2)).Nodup)
  (h : K (.tup [.str e.1, e.2.1]) σ) : OpWp P rd o env σ K := by
 refine OpWp.of_run (by simp [ho]) fun g w a hr hop => ?_
 obtain ⟨b, bm, own, e1, ho', p2, p3, p4, p5, p6⟩ := rel_iter hr (hop x (by simp [ho, Op.operands]) _ hx) hσ
 obtain ⟨b2, ents, q1, q2, q3, q4, q5⟩ := ho'.obj _ _ hm
 rw [p5] at q2
 injection q2 with q2
 subst q2
 obtain ⟨j, hj⟩ := List.getElem?_of_mem he
 obtain ⟨y, hy, r1, r2, r3⟩ := q5.get hj
 have hborn : ents.toList.map (·.born) = es.map (·.2.2) := by
  apply List.ext_getElem?
  intro i
  rw [zL, zL]
  cases hi : es[i]? with
  | none =>
   have : es.length ≤ i := by simpa using hi
   rw [List.getElem?_eq_none (by rw [q5.1]; exact this)]
   rfl
  | some e2 =>
   obtain ⟨y2, hy2, _, t2, _⟩ := q5.get hi
   rw [hy2]
   simp [t2]
 have hrun := run_entry_at (P := P) w b bm since seen.toArray ents last y (by rw [p6, r2]; simp) q4 (zE hy) (by rw [hborn]; exact hn)
 refine ⟨.tuple #[y.key, y.val], w, by simp [execOp, ho, e1, hrun], .same h hr (.tup' (.cons ?_ (.cons r3 (.nil _ _))))⟩
 rw [r1]
 exact .str _
end
end
end Go.MV
section
namespace Go.MV
open Go Go.RowKit
section
variable {P : Program} {rd : Option Nat} {o : Oper} {env : Env} {S L : MS} {K : MV → MS → Prop}
theorem op_makeMap' {t : TypeId} {k : Nat} {L' : MS} (ho : o.op = .makeMap t none) (hk : L.length = k) (hL : L ++ [.mp 0 []] = L') (h : K (.map (S.length + k)) (S ++ L')) : OpWp P rd o env (S ++ L) K :=
 op_makeMap ho (by rw [zJ, hk, zK, hL]; exact h)
end
end Go.MV
namespace Go.Proofs.Ytplclefbiimnbaa
open Go Go.MV
theorem put_cl {d clk : Nat} {s : ByteArray} {v : MV} {es : List ME} (h : ∀ e ∈ es, Cl d e.2.1) (hv : Cl d v) : ∀ e ∈ mpPut clk s v es, Cl d e.2.1 := by
 intro e he
 unfold mpPut at he
 split at he
 ·obtain ⟨j, hj⟩ := List.getElem?_of_mem he
  rw [List.getElem?_modify] at hj
  cases hx : es[j]? with
  | none => rw [hx] at hj; cases hj
  | some x =>
   rw [hx] at hj
   simp only [Option.map_eq_map, Option.map_some, Option.some.injEq] at hj
   have := h x (zE hx)
   split at hj
   ·subst hj
    exact hv
   ·subst hj
    exact this
 ·rcases zT0.1 he with he | he
  ·exact h e he
  ·simp at he
   subst he
   exact hv
def askE (k : Bs) (c : Nat) (clk : Nat) (es : List ME) : MObj := .mp (mpClk clk (bs k) es) (mpPut clk (bs k) (.int .i64 (c : Int)) es)
theorem heatNew_spec (S : MS) : MCalls Try.prog 5 [] S fun v σ' => v = .ref (S.length + 1) 0 ∧ σ' = S ++ [.mp 0 [], .cells [.map S.length, .lst0]] := by
 refine zW Try.func5 V Try.ntmps5 (zF V) ?_
 refine zC <| qR V <| qA V V V <| qN <| zC <| qR V <| qO V <| op_makeMap' V V V <| qO V <| op_build V Try.underlying34 zm34 (.cons fo34_0 sz32 V V (zF V) .nil) (by kernel_rfl) ?_
 refine qO V <| op_build V Try.underlying36 zm36 (.cons fo36_0 sz34 V V (zF V) .nil) (by kernel_rfl) ?_
 refine qB V V V V V <| qA V V V <| qN ?_
 refine zB0 fun hcv hcl => ?_
 refine zZ ?_
 exact ret_tmpT (.inr V) Try.results5 V (.refl _) (hcv 0 _ rfl) (by simp) hcl Vv
theorem tallyOne_spec (S : MS) (hid mid clk c : Nat) (es : List ME) (r : List MV) (k : Bs) (hS : S[hid]? = some (.cells (.map mid :: r))) (hm : S[mid]? = some (.mp clk es)) (hl : (mpLook (bs k) es).getD (.int .i64 0) = .int .i64 (c : Int)) (hc : c ≤ 1000) (hroom : es.length < 24) : MCalls Try.prog 9 [.ref hid 0, .str (bs k), .int .i64 24] S fun v σ' => v = .tup [] ∧ σ' = S.set mid (askE k (c + 1) clk es) := by
 refine zW Try.func9 V Try.ntmps9 (zF V) ?_
 refine zB0 fun _ hcl => ?_
 rw [List.append_nil] at hcl
 have hm0 : (S ++ ([] : MS))[mid]? = some (.mp clk es) := by rw [List.append_nil]; exact hm
 obtain ⟨had, hhad⟩ : ∃ b, (mpLook (bs k) es).isSome = b := ⟨_, rfl⟩
 refine zC <| qR V <| qM V V V <| qO V <| zD0 V V V <| qF V V V fo34_0 <| qO V <| zB1 V V hS ta32 V <| qM V V V <| qO V <| op_lookup_ok (t := 32) (e := 3) V (by kernel_rfl) (by kernel_rfl) V V hm0 hl hhad ?_
 refine qM V V V <| qO V <| zJ0 V V V <| qO V <| zJ0 V V V <| qA V V V <| qA V V V <| qN <| zC <| qR V <| qM V V V <| qM V V V ?_
 refine zE1 (fun h18 => ?_) (fun h18 => ?_)
 ·
  refine qT V V V V <| qS V <| qS V <| qS V <| qP V V V V <| qN <| zT V (V) <| qR V <| qM V V V <| qO V <| zD0 V V V <| qF V V V fo34_0 <| qO V <| zB1 V V hS ta32 V <| qM V V V <| qO V <| op_lookup (t := 32) (e := 3) V (by kernel_rfl) (by kernel_rfl) V V hm0 hl ?_
  refine qO V <| zU V V V (wadd (a := c) (b := 1) V (by omega)) ?_
  refine zL0 V (op_mapUpdate (t := 32) (e := 3) (.inl V) (by kernel_rfl) V V V hm0 ?_)
  refine qN ?_
  rw [List.append_nil]
  exact zI0 (.inl V) Try.results9 (by simp) (hcl.set (put_cl (hcl _ _ hm) (.int _ _))) Vv
 ·
  refine qM V V V <| qO V <| zD0 V V V <| qF V V V fo34_0 <| qO V <| zB1 V V hS ta32 V <| qO V <| op_len_map (t := 32) (e := 3) V (by kernel_rfl) V hm0 ?_
  refine qM V V V <| qC V V V V (show intCmp .lss ((es.length : Nat) : Int) 24 = some true by simp [intCmp]; omega) ?_
  refine qP V V V V <| qN <| zT V (V) <| qR V <| qM V V V <| qO V <| zD0 V V V <| qF V V V fo34_0 <| qO V <| zB1 V V hS ta32 V <| qM V V V <| qO V <| op_lookup (t := 32) (e := 3) V (by kernel_rfl) (by kernel_rfl) V V hm0 hl ?_
  refine qO V <| zU V V V (wadd (a := c) (b := 1) V (by omega)) ?_
  refine zL0 V (op_mapUpdate (t := 32) (e := 3) (.inl V) (by kernel_rfl) V V V hm0 ?_)
  refine qN ?_
  rw [List.append_nil]
  exact zI0 (.inl V) Try.results9 (by simp) (hcl.set (put_cl (hcl _ _ hm) (.int _ _))) Vv
theorem heatAsk_spec (S : MS) (hid mid clk c : Nat) (es : List ME) (r : List MV) (k : Bs) (hS : S[hid]? = some (.cells (.map mid :: r))) (hm : S[mid]? = some (.mp clk es)) (hl : (mpLook (bs k) es).getD (.int .i64 0) = .int .i64 (c : Int)) (hc : c ≤ 1000) (hroom : es.length < 24) : MCalls Try.prog 6 [.ref hid 0, .str (bs k)] S fun v σ' => v = .tup [] ∧ σ' = S.set mid (askE k (c + 1) clk es) := by
 refine zW Try.func6 V Try.ntmps6 (zF V) ?_
 refine zB0 fun _ hcl => ?_
 rw [List.append_nil] at hcl
 refine qR V <| qM V V V <| qO V <| zD0 V V V <| qF V V V fo36_0 <| qM V V V ?_
 refine qX V V V V co9 (tallyOne_spec (S ++ []) hid mid clk c es r k (by rw [List.append_nil]; exact hS) (by rw [List.append_nil]; exact hm) hl hc hroom) ?_
 refine qN ?_
 rw [List.append_nil]
 exact zI0 (.inl V) Try.results6 (by simp) (hcl.set (put_cl (hcl _ _ hm) (.int _ _))) Vv
theorem tallyAt_spec (S : MS) (hid : Nat) (n : Int) : MCalls Try.prog 10 [.ref hid 0, .int .i64 n] S fun v σ' => v = .fn (.func 16) [] [.ref S.length 0, .ref (S.length + 1) 0] ∧ σ' = S ++ [.cells [.ref hid 0], .cells [.int .i64 n]] := by
 refine zW Try.func10 V Try.ntmps10 (zF V) ?_
 refine zC <| qR V <| qB V V V V V <| qB V V V V V <| qA V V V <| qN <| zC <| qR V <| qO V <| op_makeFunc V V V <| qA V V V <| qN ?_
 refine zB0 fun hcv hcl => ?_
 refine zZ ?_
 exact ret_tmpT (.inr V) Try.results10 V (.refl _) (hcv 4 _ rfl) (by simp) hcl Vv
end Go.Proofs.Ytplclefbiimnbaa
end
section
namespace Go.MV
open Go Go.RowKit
theorem get_left {A B : MS} {i : Nat} {o : MObj} (h : A[i]? = some o) : (A ++ B)[i]? = some o := by
 rw [List.getElem?_append_left (zB.1 h).1]
 exact h
theorem _root_.zW0 : type_of% @get_left := @get_left
theorem get_left0 {A B : MS} {i : Nat} {o : MObj} (h : A[i]? = some o) : (([] : MS) ++ (A ++ B))[i]? = some o := by rw [List.nil_append]; exact zW0 h
theorem set_last {A : MS} {n : Nat} {o p : MObj} (h : A.length = n) : (A ++ [o]).set n p = A ++ [p] := by subst h; exact set_mid
theorem get_lastO {A : MS} {n : Nat} {o : MObj} (h : A.length = n) : (A ++ [o])[n]? = some o := by subst h; exact get_mid
theorem get_last0 {A : MS} {n : Nat} {o : MObj} (h : A.length = n) : (([] : MS) ++ (A ++ [o]))[n]? = some o := by rw [List.nil_append]; exact get_lastO h
theorem set_last0 {A : MS} {n : Nat} {o p : MObj} (h : A.length = n) : (([] : MS) ++ (A ++ [o])).set n p = [] ++ (A ++ [p]) := by rw [List.nil_append, List.nil_append]; exact set_last h
theorem wOps_to {P : Program} {rd : Option Nat} {rest : List Oper} {ops : Array Oper} {env : Env} {σ : MS} {W : Env → MS → Prop} (σ' : MS) (e : σ = σ') (h : wOps P rd ops W rest env σ') : wOps P rd ops W rest env σ := e ▸ h
def toCome (seen : List Nat) (es : List ME) : Nat := (es.filter fun e => !seen.contains e.2.2).length
theorem filter_le {α : Type} {p q : α → Bool} (h : ∀ x, q x = true → p x = true) : ∀ l : List α, (l.filter q).length ≤ (l.filter p).length
 | [] => Nat.le_refl _
 | x :: l => by
  have ih := filter_le h l
  have hx := h x
  cases hq : q x <;> cases hp : p x
  ·simp only [List.filter_cons, hq, hp]
   simpa using ih
  ·simp only [List.filter_cons, hq, hp]
   simp
   omega
  ·rw [hp] at hx
   exact absurd (hx hq) (by simp)
  ·simp only [List.filter_cons, hq, hp]
   simpa using ih
theorem filter_lt {α : Type} {p q : α → Bool} (h : ∀ x, q x = true → p x = true) {e : α} (hp : p e = true) (hq : q e = false) : ∀ l : List α, e ∈ l → (l.filter q).length < (l.filter p).length
 | [], he => by cases he
 | x :: l, he => by
  have hx := h x
  have hle := filter_le h l
  rcases List.mem_cons.1 he with rfl | he
  ·simp only [List.filter_cons, hq, hp]
   simp
   omega
  ·have ih := filter_lt h hp hq l he
   cases hq' : q x <;> cases hp' : p x
   ·simp only [List.filter_cons, hq', hp']
    simpa using ih
   ·simp only [List.filter_cons, hq', hp']
    simp
    omega
   ·rw [hp'] at hx
    exact absurd (hx hq') (by simp)
   ·simp only [List.filter_cons, hq', hp']
    simpa using ih
theorem toCome_lt {seen : List Nat} {es : List ME} {e : ME} (he : e ∈ es) (hn : e.2.2 ∉ seen) : toCome (seen ++ [e.2.2]) es < toCome seen es := by
 refine filter_lt (fun x hx => ?_) ?_ ?_ es he
 ·simp at hx ⊢
  exact hx.1
 ·simpa using hn
 ·simp
theorem idx_end {hot : Option ME} {f : ME → List MV} {j m : Nat} (hm : m ≤ (hot.toList.map f).length) (hj : j ≤ m) (h1 : ∀ e0, hot = some e0 → j = 1) (h0 : hot = none → j = 0) : (if m < (hot.toList.map f).length then m + 1 else m) = j := by
 cases hot with
 | none =>
  simp at hm ⊢
  omega
 | some e =>
  have := h1 e rfl
  simp at hm ⊢
  rw [if_neg (by omega)]
  omega
theorem idx_stop {hot : Option ME} {f : ME → List MV} {j m : Nat} {e : ME} (hh : hot = some e) (hj : j = 0) (hjm : j = m) : (if m < (hot.toList.map f).length then m + 1 else m) = j + 1 := by
 subst hh hjm hj
 rfl
theorem inv_hot {hot : Option ME} {j : Nat} {seen : List Nat} {e : ME} (hh : hot = some e) (hj : j = 0) : ∀ e0, hot = some e0 → j + 1 = if e0.2.2 ∈ seen ++ [e.2.2] then 1 else 0 := by
 intro e0 h
 rw [hh] at h
 injection h with h
 subst h
 rw [if_pos (by simp), hj]
def OneHot (es : List ME) (hot : Option ME) : Prop := (∀ e ∈ es, ∃ n : Nat, e.2.1 = .int .i64 (n : Int) ∧ (6 ≤ n ↔ hot = some e)) ∧ (∀ e, hot = some e → e ∈ es) ∧ (es.map (·.2.2)).Nodup
end Go.MV
namespace Go.Proofs.Ytplclefbiimnbaa
open Go Go.MV
theorem stamp_inj : ∀ {es : List ME} {a b : ME}, (es.map (·.2.2)).Nodup → a ∈ es → b ∈ es → a.2.2 = b.2.2 → a = b
 | [], a, b, _, ha, _, _ => by cases ha
 | x :: es, a, b, h, ha, hb, e => by
  rw [List.map_cons, List.nodup_cons] at h
  rcases List.mem_cons.1 ha with h1 | h1 <;> rcases List.mem_cons.1 hb with h2 | h2
  ·rw [h1, h2]
  ·rw [h1] at e
   exact absurd (List.mem_map.2 ⟨b, h2, e.symm⟩) h.1
  ·rw [h2] at e
   exact absurd (List.mem_map.2 ⟨a, h1, e⟩) h.1
  ·exact stamp_inj h.2 h1 h2 e
theorem inv_cold {hot : Option ME} {j : Nat} {seen : List Nat} {es : List ME} {e : ME} (hone : OneHot es hot) (he : e ∈ es) (hh : ¬ hot = some e) (h1 : ∀ e0, hot = some e0 → j = if e0.2.2 ∈ seen then 1 else 0) : ∀ e0, hot = some e0 → j = if e0.2.2 ∈ seen ++ [e.2.2] then 1 else 0 := by
 intro e0 h
 have hne : ¬ e0.2.2 = e.2.2 := fun hq => hh (by rw [← stamp_inj hone.2.2 (hone.2.1 e0 h) he hq]; exact h)
 have hiff : (e0.2.2 ∈ seen ++ [e.2.2]) = (e0.2.2 ∈ seen) := by simp [hne]
 rw [h1 e0 h]
 simp only [hiff]
theorem tallyAt_iter (hid mid clk bt bl l0 : Nat) (es : List ME) (hot : Option ME) (hone : OneHot es hot) (hold : ∀ e ∈ es, e.2.2 < clk) : IterOk Try.prog 16 [] [.ref bt 0, .ref bl 0] (hot.toList.map fun e => [.str e.1]) (fun σ => (σ.length = l0 ∧ σ[bt]? = some (.cells [.ref hid 0]) ∧ σ[bl]? = some (.cells [.int .i64 6]) ∧ (∃ r, σ[hid]? = some (.cells (.map mid :: r))) ∧ σ[mid]? = some (.mp clk es)) ∧ ClS σ) := by
 refine iterOk_of fun id T m hok hm hyt hyf => ?_
 refine zW Try.func16 V Try.ntmps16 (zF V) ?_
 rw [List.append_nil]
 show mwp _ _ _ _ _ _ _ (([] : MS) ++ T 0)
 refine zC <| qR V <| qO V <| zG V V ((hok _).1.2.1) ta45 V <| qO V <| zD0 V V V <| qF V V V fo34_0 <| qO V <| zG V V ((hok _).1.2.2.2.1.choose_spec) ta32 V <| qO V <| op_range_map (t := 32) (e := 3) V (by kernel_rfl) V (hok 0).1.2.2.2.2 ?_
 show wOps _ _ _ _ _ _ (([] : MS) ++ (T 0 ++ [.mit mid clk [] clk]))
 refine qN <| zA0 ?_
 refine zD1 (α := Nat × List Nat) [(0, _), (2, _), (10, _)] (fun x => []) (fun x => T x.1 ++ [.mit mid clk x.2 clk]) (fun x => x.1 ≤ m ∧ (∀ e0, hot = some e0 → x.1 = if e0.2.2 ∈ x.2 then 1 else 0) ∧ (hot = none → x.1 = 0)) (fun x => toCome x.2 es) (⟨0, []⟩) (.keep V (.keep V (.keep V (.nil)))) (.nil) (⟨Nat.zero_le _, fun e0 _ => by simp, fun _ => rfl⟩) (V) ?_
 rintro ⟨j, seen⟩ ⟨hj, h1, h0⟩
 dsimp only at hj h1 h0 ⊢
 have hlj : (T j).length = (T 0).length := by rw [(hok j).1.1, (hok 0).1.1]
 refine zC <| qR V ?_
 refine zL0 V (op_next_map V V (get_last0 hlj) (get_left0 (hok j).1.2.2.2.2) hold (Nat.le_refl _) (fun hall => ?_) (fun e he hn => ?_))
 ·
  refine qO V <| zJ0 V V V <| qN <| zC <| zP V (V) <| mwp_exit ?_
  rw [List.nil_append]
  exact ret_noneS (S' := T j) (by simp) Try.results16 (by rw [(hok _).1.1, (hok _).1.1]; exact Nat.le_refl _) (hok _).2 ⟨rfl, by rw [idx_end hm hj (fun e0 h => by rw [h1 e0 h, if_pos (hall _ (hone.2.1 e0 h))]) h0]⟩
 ·
  obtain ⟨k, w, st⟩ := e
  obtain ⟨n, hw, hn6⟩ := hone.1 _ he
  dsimp only at hw hn6 hn ⊢
  subst hw
  refine wOps_to (([] : MS) ++ (T j ++ [.mit mid clk (seen ++ [st]) clk])) (set_last0 hlj) <| qO V <| zJ0 V V V <| qN <| zC <| zT V (V) <| zQ <| zA0 <| zC <| qR V <| qO V <| op_entry_map (e := (k, .int .i64 (n : Int), st)) V V (get_last0 hlj) (get_left0 (hok j).1.2.2.2.2) he hone.2.2 <| qO V <| zJ0 V V V <| qO V <| zJ0 V V V <| qA V V V <| qA V V V <| qN <| zC ?_
  rcases Nat.lt_or_eq_of_le hj with hjm | hjm
  ·
   refine qR V <| qM V V V <| qO V <| zG V V (get_left0 (hok j).1.2.2.1) ta3 V <| qC V V V V V <| qM V V V ?_
   refine zE1 (fun h19 => ?_) (fun h19 => ?_)
   ·
    have hh := hn6.1 (by simp at h19; omega)
    have hj0 : j = 0 := by rw [h1 _ hh, if_neg hn]
    have hy : (hot.toList.map fun e => [MV.str e.1])[j]? = some [.str k] := by rw [hj0, hh]; rfl
    refine qM V V V <| qM V V V <| qO V <| (((hyt j _ hjm hy).frame [.mit mid clk (seen ++ [st]) clk]).at0 V V V).mono ?_
    rintro _ _ ⟨rfl, rfl⟩
    refine qO V <| zG0 V V <| qP V V V V <| qN <| zP V (V) <| zQ ?_
    refine ⟨⟨j + 1, seen ++ [st]⟩, toCome_lt (e := (k, .int .i64 (n : Int), st)) he hn, ⟨by dsimp only; omega, inv_hot hh hj0, fun h => by rw [hh] at h; cases h⟩, rfl, (.keep V (.keep V (.keep V (.nil)))), (.nil)⟩
   ·
    have hh : ¬ hot = some (k, .int .i64 (n : Int), st) := fun h => by have := hn6.2 h; simp at h19; omega
    refine qT V V V V <| qP V V V V <| qN <| zP V (V) <| zQ ?_
    refine ⟨⟨j, seen ++ [st]⟩, toCome_lt (e := (k, .int .i64 (n : Int), st)) he hn, ⟨hj, inv_cold hone he hh h1, h0⟩, rfl, (.keep V (.keep V (.keep V (.nil)))), (.nil)⟩
  ·
   refine qR V <| qM V V V <| qO V <| zG V V (get_left0 (hok j).1.2.2.1) ta3 V <| qC V V V V V <| qM V V V ?_
   refine zE1 (fun h19 => ?_) (fun h19 => ?_)
   ·
    have hh := hn6.1 (by simp at h19; omega)
    have hj0 : j = 0 := by rw [h1 _ hh, if_neg hn]
    have hy : (hot.toList.map fun e => [MV.str e.1])[j]? = some [.str k] := by rw [hj0, hh]; rfl
    refine qM V V V <| qM V V V <| qO V <| (((hyf j _ hjm hy).frame [.mit mid clk (seen ++ [st]) clk]).at0 V V V).mono ?_
    rintro _ _ ⟨rfl, rfl⟩
    refine qO V <| zG0 V V <| qP V V V V <| qN <| zT V (V) <| zZ ?_
    exact ret_noneS (S' := T (j + 1)) (by simp) Try.results16 (by rw [(hok _).1.1, (hok _).1.1]; exact Nat.le_refl _) (hok _).2 ⟨rfl, by rw [idx_stop hh hj0 hjm]⟩
   ·
    have hh : ¬ hot = some (k, .int .i64 (n : Int), st) := fun h => by have := hn6.2 h; simp at h19; omega
    refine qT V V V V <| qP V V V V <| qN <| zP V (V) <| zQ ?_
    refine ⟨⟨j, seen ++ [st]⟩, toCome_lt (e := (k, .int .i64 (n : Int), st)) he hn, ⟨hj, inv_cold hone he hh h1, h0⟩, rfl, (.keep V (.keep V (.keep V (.nil)))), (.nil)⟩
end Go.Proofs.Ytplclefbiimnbaa
end
namespace Go.MV
open Go Go.RowKit
section
def OkD (ops : Array Oper) (i : Nat) (o : Oper) (D : Nat → Bool) : Prop := D i = false ∧ (∀ e, bindsOn o e = true → D e = true) ∧ ∀ (j : Nat) (p : Oper), ops[j]? = some p → D j = true → ∀ e, bindsOn p e = true → D e = true
def updD (D : Nat → Bool) (i : Nat) : Nat → Bool := fun j => if j = i then true else D j
section
variable {P : Program} {rd : Option Nat} {N n : Nat} {ops : Array Oper} {env : Env} {σ : MS} {st : (Nat → Bool) → MS}
structure RowS (P : Program) (rd : Option Nat) (ops : Array Oper) (st : (Nat → Bool) → MS) (E : Nat → Env) (X : Nat → MV) (B : Nat → Bool) (from_ n : Nat) : Prop where
 step : ∀ (i : Nat) (o : Oper), from_ ≤ i → ops[i]? = some o → guardOk ops (E i) o = some (B i) ∧
  (B i = true → ∀ D, OkD ops i o D → OpWp P rd o (E i) (st D) fun x' σ' => x' = X i ∧ σ' = st (updD D i)) ∧
  (B i = false → (∀ D, st (updD D i) = st D) ∧ X i = .tup []) ∧ E (i + 1) = putd o.dst (X i) (E i)
theorem rowS_get {E : Nat → Env} {X : Nat → MV} {B : Nat → Bool} (hx : LexS n ops) (hrow : RowS P rd ops st E X B 0 ops.size) : ∀ (i : Nat), i ≤ ops.size → ∀ t,
  (∀ (j : Nat) (p : Oper), j < i → ops[j]? = some p → p.dst = some t → get (E i) t = some (X j)) ∧ ((∀ (j : Nat) (p : Oper), j < i → ops[j]? = some p → p.dst ≠ some t) → get (E i) t = get (E 0) t)
 | 0, _, t => ⟨fun j p hj => by omega, fun _ => rfl⟩
 | i + 1, hi, t => by
  obtain ⟨h1, h2⟩ := rowS_get hx hrow i (by omega) t
  have ho : ops[i]? = some ops[i] := Array.getElem?_eq_getElem (by omega)
  obtain ⟨_, _, _, hE⟩ := hrow.step i _ (Nat.zero_le _) ho
  rw [hE]
  refine ⟨fun j p hj hp hd => ?_, fun hno => ?_⟩
  ·by_cases e : j = i
   ·subst e
    rw [ho] at hp
    injection hp with hp
    subst hp
    rw [hd]
    exact zS0 _ _ _
   ·have hne : ops[i].dst ≠ some t := fun hd' => e (hx.inj j i p _ t hp ho hd hd')
    cases hdo : ops[i].dst with
    | none => exact h1 j p (by omega) hp hd
    | some d =>
     rw [hdo] at hne
     show get ((d, X i) :: E i) t = _
     rw [zR0 _ _ (fun e => hne (by rw [e]))]
     exact h1 j p (by omega) hp hd
  ·have hne := hno i _ (by omega) ho
   have hold := h2 fun j p hj => hno j p (by omega)
   cases hdo : ops[i].dst with
   | none => exact hold
   | some d =>
    rw [hdo] at hne
    show get ((d, X i) :: E i) t = _
    rw [zR0 _ _ (fun e => hne (by rw [e]))]
    exact hold
structure DInvS (P : Program) (rd : Option Nat) (N n m0 : Nat) (ops : Array Oper) (st : (Nat → Bool) → MS) (E : Nat → Env) (X : Nat → MV) (g0 : Gh) (w0 : World) (F : Fence) (listed : Array Bool) (a : Act) (w : World) (g : Gh) : Prop where
 fok : FOkN N g rd F
 rel : Rel g (st fun j => listed.getD j false) w
 le : LeN N g0 w0 g w
 sz : a.tmps.size = n
 marks : Marks m0 w a.defers
 old : ∀ t x, get (E 0) t = some x → (∀ (j : Nat) (p : Oper), ops[j]? = some p → p.dst = some t → listed.getD j true = false) → ∃ v, a.tmps[t]? = some v ∧ Rd g w x v
 new : ∀ (j : Nat) (p : Oper) (d : Nat), listed.getD j false = true → ops[j]? = some p → p.dst = some d → ∃ v, a.tmps[d]? = some v ∧ Rd g w (X j) v
 lsz : listed.size = ops.size
theorem DInvS.reads {m0 : Nat} {E : Nat → Env} {X : Nat → MV} {B : Nat → Bool} {g0 : Gh} {w0 : World} {F : Fence} {listed : Array Bool} {a : Act} {w : World} {g : Gh} (hx : LexS n ops) (hrow : RowS P rd ops st E X B 0 ops.size) (hI : DInvS P rd N n m0 ops st E X g0 w0 F listed a w g)
  {i : Nat} {o : Oper} (hi : ops[i]? = some o) (hnl : listed.getD i true = false) (hdep : ∀ e ∈ o.after, Region.binds .any e = true → listed.getD e.on false = true)
  (hcl : ∀ (j : Nat) (p : Oper), ops[j]? = some p → listed.getD j false = true → ∀ e ∈ p.after, Region.binds .any e = true → listed.getD e.on false = true) {t : Nat} (ht : t ∈ readsOf ops o) {x : MV} (hg : get (E i) t = some x) : ∃ v, a.tmps[t]? = some v ∧ Rd g w x v := by
 have hlt : i < ops.size := (Array.getElem?_eq_some_iff.1 hi).1
 obtain ⟨h1, h2⟩ := rowS_get hx hrow i (by omega) t
 by_cases hex : ∃ (j : Nat) (p : Oper), j < i ∧ ops[j]? = some p ∧ p.dst = some t
 ·obtain ⟨j, p, hji, hp, hd⟩ := hex
  rcases hx.dep i j o p t hi hp ht hd with ⟨_, e, he, hb, hon⟩ | ⟨hij, _⟩ | hij
  ·rw [h1 j p hji hp hd] at hg
   injection hg with hg
   subst hg
   exact hI.new j p t (by rw [← hon]; exact hdep e he hb) hp hd
  ·omega
  ·omega
 ·have hno : ∀ (j : Nat) (p : Oper), j < i → ops[j]? = some p → p.dst ≠ some t := fun j p hj hp hd => hex ⟨j, p, hj, hp, hd⟩
  rw [h2 hno] at hg
  refine hI.old t x hg fun j p hp hd => ?_
  have hjs : j < ops.size := (Array.getElem?_eq_some_iff.1 hp).1
  have hji : ¬ j < i := fun hj => hno j p hj hp hd
  rcases hx.dep i j o p t hi hp ht hd with ⟨hj, _⟩ | ⟨hij, e, he, hb, hon⟩ | hij
  ·omega
  ·cases hl : listed.getD j true with
   | false => rfl
   | true =>
    rw [getD_ff hI.lsz hjs] at hl
    have := hcl j p hp hl e he hb
    rw [hon, ← getD_ff hI.lsz hlt, hnl] at this
    cases this
  ·subst hij; exact hnl
end
end
section
section
variable {P : Program} {rd : Option Nat} {N n : Nat} {c : Code} {Q : Exit → Env → MS → Prop} {env : Env} {S L L' : MS}
theorem mwp_cellsub (k : Nat) {l l' : List MV} (hk : L[k]? = some (.cells l)) (hs : Subs l l') (hL : L.set k (.cells l') = L') (h : mwp P rd N n c Q env (S ++ L')) : mwp P rd N n c Q env (S ++ L) := by
 subst hL
 refine mwp_ghost (fun g w tmps hr he => ?_) h
 refine ⟨g, ?_, he, .refl _ _ _, fun _ h => h⟩
 rw [← set_own]
 exact hr.recell (by rw [getElem?_own]; exact hk) fun us hus => hs.rds hus
end
section
variable {P : Program} {rd : Option Nat} {o : Oper} {env : Env} {S L L' : MS} {K : MV → MS → Prop}
end
section
variable {a b c d e f g : MObj} {R : MS} {o o' : MObj} {p : Nat}
end
end
end Go.MV
section
namespace Go.MV
open Go Go.RowKit
section
variable {P : Program} {rd : Option Nat} {o : Oper} {env : Env} {K : MV → MS → Prop} {σ σ' : MS}
theorem op_makeMapN {t : TypeId} {n : Nat} (ho : o.op = .makeMap t none) (hn : σ.length = n) (hσ : σ ++ [.mp 0 []] = σ') (h : K (.map n) σ') : OpWp P rd o env σ K :=
 op_makeMap ho (by rw [hn, hσ]; exact h)
end
theorem far_get {S Own : MS} {hid : Nat} {X : MObj} (h : hid < S.length) : (([] : MS) ++ (S.set hid X ++ Own))[hid]? = some X := by
 rw [List.nil_append, List.getElem?_append_left (by simpa using h), List.getElem?_set_self h]
theorem far_set {S Own : MS} {hid : Nat} {X Y : MObj} (h : hid < S.length) : (([] : MS) ++ (S.set hid X ++ Own)).set hid Y = [] ++ (S.set hid Y ++ Own) := by
 rw [List.nil_append, List.nil_append, List.set_append_left _ _ (by simpa using h), List.set_set]
theorem own_get {S Own : MS} {hid k : Nat} {X o : MObj} (h : Own[k]? = some o) : (([] : MS) ++ (S.set hid X ++ Own))[S.length + k]? = some o := by
 rw [List.nil_append, List.getElem?_append_right (by simp), List.length_set, Nat.add_sub_cancel_left]
 exact h
theorem get_q2 {A R : MS} {o a b c o' a' : MObj} : ((A ++ [o, a, b, c]) ++ R)[(A ++ [o', a']).length]? = some b := by rw [zJ, zK, getElem?_own]; rfl
theorem get_q3 {A R : MS} {o a b c o' a' : MObj} : ((A ++ [o, a, b, c]) ++ R)[(A ++ [o', a']).length + 1]? = some c := by rw [zJ, zK, Nat.add_assoc, getElem?_own]; rfl
theorem mwp_to {P : Program} {rd : Option Nat} {N n : Nat} {c : Code} {Q : Exit → Env → MS → Prop} {env : Env} {σ : MS} (σ' : MS) (e : σ = σ') (h : mwp P rd N n c Q env σ') : mwp P rd N n c Q env σ := e ▸ h
theorem ys_get {α : Type} {hot : Option α} {f : α → List MV} {j : Nat} {y : List MV} (h : (hot.toList.map f)[j]? = some y) : ∃ e, hot = some e ∧ j = 0 ∧ y = f e := by
 cases hot with
 | none => simp at h
 | some e =>
  cases j with
  | zero => simp at h; exact ⟨e, rfl, rfl, h.symm⟩
  | succ j => simp at h
theorem ret_tmp2T_ {P : Program} {fn : Func} {S S' L : MS} {R : MV → MS → Prop} {env : Env} {e : Exit} {t t' : Nat} {x y x' y' : MV} (he : e = .normal ∨ e = .ret) (hres : fn.results = #[.tmp t, .tmp t']) (hx : get env t = some x) (hx' : get env t' = some x') (hs : Sub x y) (hs' : Sub x' y') (hc : Cl S'.length y) (hc' : Cl S'.length y') (hl : S.length ≤ S'.length) (hS : ClS S') (hR : R (.tup [y, y']) S') : BodyQ P fn S R e env (S' ++ L) := by
 refine ⟨he, [x, x'], .tup [y, y'], S', L, ?_, .tup (.cons hs (.cons hs' .nil)), .tup _ (fun z hz => ?_), rfl, hl, .inr hS, hR⟩
 ·rw [hres]
  exact .tmp hx (.tmp hx' .nil)
 ·simp at hz
  rcases hz with rfl | rfl
  ·exact hc
  ·exact hc'
theorem set_selfO {S : MS} {id : Nat} {o : MObj} (h : S[id]? = some o) : S.set id o = S := by
 obtain ⟨hl, e⟩ := zB.1 h
 rw [← e, List.set_getElem_self]
theorem ret_tmp2T {P : Program} {fn : Func} {S S' : MS} {R : MV → MS → Prop} {env : Env} {e : Exit} {t t' : Nat} {x y x' y' : MV} (he : e = .normal ∨ e = .ret) (hres : fn.results = #[.tmp t, .tmp t']) (hx : get env t = some x) (hx' : get env t' = some x') (hs : Sub x y) (hs' : Sub x' y') (hc : Cl S'.length y) (hc' : Cl S'.length y') (hl : S.length ≤ S'.length) (hS : ClS S') (hR : R (.tup [y, y']) S') : BodyQ P fn S R e env S' := by
 have := ret_tmp2T_ (P := P) (fn := fn) (S := S) (S' := S') (R := R) (env := env) (L := []) he hres hx hx' hs hs' hc hc' hl hS hR
 rwa [List.append_nil] at this
end Go.MV
namespace Go.Proofs.Ytplclefbiimnbaa
open Go Go.MV
def cntN (es : List ME) (k : Bs) : Nat := match mpLook (bs k) es with
 | some (.int _ n) => n.toNat
 | _ => 0
def hotJ (hk : Option Bs) (up : List Bs) : Nat → List Bs
 | 0 => []
 | _ + 1 => match hk with
  | some k => if k ∈ up then [] else [k]
  | none => []
def hotR (hk : Option Bs) (up : List Bs) : List Bs := hotJ hk up 1
def coldT (es : List ME) (l : List Bs) : List Bs := l.foldl (fun c k => if cntN es k = 0 then bothX c [k] else c) []
def woAll (up c : List Bs) : List Bs := c.foldl (fun u k => woT k u) up
def upR (es : List ME) (hk : Option Bs) (up : List Bs) : List Bs := bothX (woAll up (coldT es up)) (hotR hk up)
def heatO (m : Nat) (u : List Bs) : MObj := .cells [.map m, .lst none 1 (u.map encX)]
theorem look_cnt {es : List ME} {hot : Option ME} (h : OneHot es hot) (k : Bs) : (mpLook (bs k) es).getD (.int .i64 0) = .int .i64 (cntN es k : Int) := by
 unfold cntN
 cases hi : mpIdx (bs k) es with
 | none => rw [(mpIdx_none hi).2]; rfl
 | some i =>
  obtain ⟨v, n, h1, h2⟩ := mpIdx_some hi
  obtain ⟨c, hc, _⟩ := h.1 _ (zE h1)
  dsimp only at hc
  subst hc
  rw [h2]
  simp
theorem cold_yes {es : List ME} {l : List Bs} {i : Nat} {k : Bs} (h : l[i]? = some k) (hc : cntN es k = 0) : coldT es (l.take (i + 1)) = bothX (coldT es (l.take i)) [k] := by
 unfold coldT
 rw [List.take_add_one, h, Option.toList_some, List.foldl_append, List.foldl_cons, List.foldl_nil, if_pos hc]
theorem cold_no {es : List ME} {l : List Bs} {i : Nat} {k : Bs} (h : l[i]? = some k) (hc : ¬ cntN es k = 0) : coldT es (l.take (i + 1)) = coldT es (l.take i) := by
 unfold coldT
 rw [List.take_add_one, h, Option.toList_some, List.foldl_append, List.foldl_cons, List.foldl_nil, if_neg hc]
theorem cold_len (es : List ME) (l : List Bs) : ∀ i, i ≤ l.length → (coldT es (l.take i)).length ≤ i := by
 intro i
 induction i with
 | zero => intro _; simp [coldT]
 | succ i ih =>
  intro hi
  obtain ⟨k, hk⟩ : ∃ k, l[i]? = some k := ⟨_, zA (by omega)⟩
  have := ih (by omega)
  by_cases hc : cntN es k = 0
  ·rw [cold_yes hk hc]
   have := both_len (coldT es (l.take i)) [k]
   simp at this
   omega
  ·rw [cold_no hk hc]
   omega
theorem woAll_step {up c : List Bs} {i : Nat} {k : Bs} (h : c[i]? = some k) : woAll up (c.take (i + 1)) = woT k (woAll up (c.take i)) := by
 unfold woAll
 rw [List.take_add_one, h, Option.toList_some, List.foldl_append, List.foldl_cons, List.foldl_nil]
theorem woAll_len (up : List Bs) : ∀ c : List Bs, (woAll up c).length ≤ up.length := by
 intro c
 unfold woAll
 induction c generalizing up with
 | nil => exact Nat.le_refl _
 | cons k c ih =>
  rw [List.foldl_cons]
  have := ih (woT k up)
  have := wo_len k up
  omega
theorem hotR_len (hk : Option Bs) (up : List Bs) : (hotR hk up).length ≤ 1 := by
 cases hk with
 | none => simp [hotR, hotJ]
 | some k =>
  simp only [hotR, hotJ]
  split <;> simp
theorem hot_end {hot : Option ME} {hk : Option Bs} {f : ME → List MV} (h : hot.map (·.1) = hk.map bs) (up : List Bs) : hotJ hk up (hot.toList.map f).length = hotR hk up := by
 cases hot with
 | none =>
  cases hk with
  | none => rfl
  | some k => simp at h
 | some e => rfl
theorem both_one (k : Bs) : bothX [] [k] = [k] := by rw [bothX, both_end]
theorem turnL_cl {d hid : Nat} {l : List Bs} {o : MObj} (h : hid < d) (ho : o ∈ [MObj.cells [.ref hid 0], .cells [.lst none 1 (l.map encX)], .cells [.ref hid 0], .cells [.int .i64 6]]) : o.cl d := by
 simp only [List.mem_cons, List.not_mem_nil, or_false] at ho
 rcases ho with rfl | rfl | rfl | rfl
 ·intro x hx
  simp at hx
  subst hx
  exact .ref _ _ h
 ·intro x hx
  simp at hx
  subst hx
  exact zZ0 _ _
 ·intro x hx
  simp at hx
  subst hx
  exact .ref _ _ h
 ·intro x hx
  simp at hx
  subst hx
  exact .int _ _
theorem heatTurn_spec (S : MS) (hid mid clk : Nat) (es : List ME) (hot : Option ME) (hk : Option Bs) (up : List Bs) (hone : OneHot es hot) (hold : ∀ e ∈ es, e.2.2 < clk) (hhk : hot.map (·.1) = hk.map bs) (hup : Up up) (hul : up.length ≤ 1000) (hS : S[hid]? = some (heatO mid up)) (hm : S[mid]? = some (.mp clk es)) : MCalls Try.prog 7 [.ref hid 0] S fun v σ' => v = .tup [.lst none 1 ((hotR hk up).map encX), .lst none 1 ((coldT es up).map encX)] ∧ σ' = S.set hid (heatO (S.length + 5) (upR es hk up)) ++ [.cells [.ref hid 0], .cells [.lst none 1 ((hotR hk up).map encX)], .cells [.ref hid 0], .cells [.int .i64 6], .gone, .mp 0 []] := by
 refine zW Try.func7 V Try.ntmps7 (zF V) ?_
 have hil := (zB.1 hS).1
 refine zC <| qR V <| qB V V V V V <| qA V V V <| qA V V V <| qN <| zC <| qR V <| qO V <| op_alloc' V zm27 V V <| qA V V V <| qN <| zC <| zC <| mwp_cellsub 1 V (.cons (.nil 1) .nil) V <| qR V <| qL V V V V ta24 V <| qO V <| zD0 V V V <| qF V V V fo36_0 ?_
 refine qX V V V V co10 (tallyAt_spec _ hid 6) ?_
 rw [zK S]
 refine qN <| zA0 ?_
 refine mwp_rangeB (ok := (fun σ => σ.length = S.length + 5 ∧ σ[(S ++ [MObj.cells [.ref hid 0], MObj.cells [.lst none 1 []]]).length]? = some (.cells [.ref hid 0]) ∧ σ[(S ++ [MObj.cells [.ref hid 0], MObj.cells [.lst none 1 []]]).length + 1]? = some (.cells [.int .i64 6]) ∧ (∃ r, σ[hid]? = some (.cells (.map mid :: r))) ∧ σ[mid]? = some (.mp clk es))) (ys := hot.toList.map fun e => [.str e.1]) .ret (.inl V) (fun j => true) (fun j => ([.cells [.ref hid 0], .cells [.lst none 1 ((hotJ hk up j).map encX)], .cells [.ref hid 0], .cells [.int .i64 6]] : MS)) (fun j => ([.cells [.ref hid 0], .cells [.lst none 1 ((hotJ hk up j).map encX)], .cells [.ref hid 0], .cells [.int .i64 6]] : MS)) (fun j => V) (fun j => V) V (fun j o ho n hn => turnL_cl (by simp at hn; omega) ho) (fun j o ho n hn => turnL_cl (by simp at hn; omega) ho) V co16 V (by simp) (tallyAt_iter hid mid clk _ _ _ es hot hone hold) (fun j => ⟨by simp only [zJ, zO, List.length_nil], get_q2, get_q3, ⟨_, zW0 (zW0 hS)⟩, zW0 (zW0 hm)⟩) (fun j s q => ⟨by simp only [zJ, zO, List.length_nil], get_q2, get_q3, ⟨_, zW0 (zW0 hS)⟩, zW0 (zW0 hm)⟩) V (fun y hy => by obtain ⟨i, _, rfl⟩ := List.mem_map.1 hy; rfl) ?_ ?_ ?_
 ·
  intro j y hy hbef L'
  obtain ⟨e, he, hj0, rfl⟩ := ys_get hy
  obtain ⟨k, hk1, hk2⟩ : ∃ k, hk = some k ∧ e.1 = bs k := by
   rw [he] at hhk
   cases hk with
   | none => simp at hhk
   | some k => exact ⟨k, rfl, by simpa using hhk⟩
  rw [hk2]
  subst hj0
  refine qR V <| qA V V V <| qN ?_
  refine ⟨rfl, [], by rw [List.append_nil], ?_⟩
  rw [List.append_nil]
  refine zA0 <| zC <| qR V <| qO V <| op_load_mid V V V ta24 V <| qO V <| zD0 V V V <| qF V V V fo36_1 <| qO V <| zG V V (zW0 (zW0 hS)) ta27 V <| qM V V V ?_
  refine qX V V V V co11 (rowsHas_spec up k hup (by omega) _) ?_
  refine qO V <| zG0 V V <| qN ?_
  refine zS V (fun h22 => ?_) (fun h22 => ?_)
  ·
   have hin : ¬ k ∈ up := by simpa using h22
   refine qR V <| qO V <| op_load_mid V V V ta27 V <| qM V V V ?_
   refine qX V V V V co12 (rowsWith_spec [] k (by simp) _) ?_
   refine qO V <| op_store_mid V V V V sz27 V V (zF V) V <| qN ?_
   exact .inl ⟨rfl, rfl, [], by rw [List.append_nil]; simp only [hotJ, hk1, hin, if_true, if_false]; first | done | (rw [both_one]; done) | (rw [both_one]; rfl) | rfl⟩
  ·
   have hin : k ∈ up := by simpa using h22
   refine zQ ?_
   exact .inl ⟨rfl, rfl, [], by rw [List.append_nil]; simp only [hotJ, hk1, hin, if_true, if_false]; first | done | (rw [both_one]; done) | (rw [both_one]; rfl) | rfl⟩
 ·
  intro _
  rw [zK S]
  rw [hot_end hhk]
  refine zC <| zC <| qR V <| qL V V V V ta24 V <| qO V <| zD0 V V V <| qF V V V fo36_1 <| qO V <| zB1 V V hS ta27 V <| qE V V zH V <| qM V V V <| qN <| zA0 ?_
  refine mwp_len (t := 29) V fun hlen => ?_
  rw [zI] at hlen
  refine zD1 (α := Nat) [(1, _), (4, _), (29, _), (30, _)] (fun i => [(31, .int .i64 (i : Int)), (5, .lst none 1 ((coldT es (up.take i)).map encX))]) (fun i => [.cells [.ref hid 0], .cells [.lst none 1 ((hotR hk up).map encX)], .cells [.ref hid 0], .cells [.int .i64 6], .gone]) (fun i => i ≤ up.length) (fun i => up.length - i) (0) (.keep V (.keep V (.keep V (.keep V (.nil))))) (.keep V (.cons V (.nil 1) (.nil))) (by omega) (V) ?_
  rintro i hi
  have hcl1 := cold_len es up i hi
  refine zC <| qR V <| qC V V V V V <| qN <| zC ?_
  refine zS V (fun h32 => ?_) (fun h32 => ?_)
  ·
   have hlt : i < up.length := by simpa using h32
   obtain ⟨k, hs⟩ : ∃ q_, up[i]? = some q_ := ⟨_, zA hlt⟩
   refine zQ <| zC <| zA0 <| zC <| qR V <| qO V <| zN V zH sz9 (by decide) V V V (zF0 hs) ?_
   refine qO V <| zM V V ta9 V <| qA V V V <| qN <| zC <| qR V <| qL V V V V ta24 V <| qO V <| zD0 V V V <| qF V V V fo36_0 <| qF V V V fo34_0 <| qO V <| zB1 V V hS ta32 V <| qM V V V <| qO V <| op_lookup (t := 32) (e := 3) V (by kernel_rfl) (by kernel_rfl) V V (zW0 hm) (look_cnt hone k) ?_
   refine qC V V V V V <| qN ?_
   refine zS V (fun h42 => ?_) (fun h42 => ?_)
   ·
    have hc : cntN es k = 0 := by simp at h42; omega
    refine qR V <| qM V V V <| qM V V V ?_
    refine qX V V V V co12 (rowsWith_spec (coldT es (up.take i)) k (by omega) _) ?_
    refine qA V V V <| qN <| qR V <| qO V <| zU V V V V <| qM V V V <| qN ?_
    refine ⟨i + 1, by omega, by omega, rfl, (.keep V (.keep V (.keep V (.keep V (.nil))))), (.eq V (zY0 hlt hlen) (.eq V (by rw [cold_yes hs hc]) (.nil)))⟩
   ·
    have hc : ¬ cntN es k = 0 := by simp at h42; omega
    refine zQ <| qR V <| qO V <| zU V V V V <| qM V V V <| qN ?_
    refine ⟨i + 1, by omega, by omega, rfl, (.keep V (.keep V (.keep V (.keep V (.nil))))), (.eq V (zY0 hlt hlen) (.eq V (by rw [cold_no hs hc]) (.nil)))⟩
  ·
   have hge : i = up.length := by simp at h32; omega
   refine mwp_exit <| zC <| zC ?_
   rw [hge, List.take_length]
   refine qR V <| qM V V V <| qE V V zH V <| qM V V V <| qN <| zA0 ?_
   refine mwp_len (t := 47) V fun hlenc => ?_
   rw [zI] at hlenc
   refine mwp_to (([] : MS) ++ (S.set hid (heatO mid (woAll up ((coldT es up).take 0))) ++ [.cells [.ref hid 0], .cells [.lst none 1 ((hotR hk up).map encX)], .cells [.ref hid 0], .cells [.int .i64 6], .gone])) (by rw [List.nil_append]; show S ++ _ = S.set hid (heatO mid up) ++ _; rw [set_selfO hS]) ?_
   refine zD1 (α := Nat) [(1, _), (4, _), (5, _), (47, _), (48, _)] (fun i => [(49, .int .i64 (i : Int))]) (fun i => (S.set hid (heatO mid (woAll up ((coldT es up).take i))) ++ [.cells [.ref hid 0], .cells [.lst none 1 ((hotR hk up).map encX)], .cells [.ref hid 0], .cells [.int .i64 6], .gone])) (fun i => i ≤ (coldT es up).length) (fun i => (coldT es up).length - i) (0) (.keep V (.keep V (.keep V (.keep V (.keep V (.nil)))))) (.keep V (.nil)) (by omega) (V) ?_
   rintro i hi
   have hwl1 := woAll_len up ((coldT es up).take i)
   refine zC <| qR V <| qC V V V V V <| qN <| zC ?_
   refine zS V (fun h50 => ?_) (fun h50 => ?_)
   ·
    have hlt2 : i < (coldT es up).length := by simpa using h50
    obtain ⟨k, hs2⟩ : ∃ q_, (coldT es up)[i]? = some q_ := ⟨_, zA hlt2⟩
    refine zQ <| zC <| zA0 <| zC <| qR V <| qO V <| zN V zH sz9 (by decide) V V V (zF0 hs2) ?_
    refine qO V <| zM V V ta9 V <| qA V V V <| qN ?_
    refine mwp_draw [9] [_, (([] : MS) ++ (S.set hid (heatO mid (woT k (woAll up ((coldT es up).take i)))) ++ [.cells [.ref hid 0], .cells [.lst none 1 ((hotR hk up).map encX)], .cells [.ref hid 0], .cells [.int .i64 6], .gone]))] mo (by decide) V V V V ?_
    refine dO V V V (zG V V (own_get V) ta24 V Vv) <| dO V V V (zG V V (own_get V) ta24 V Vv) <| dO V V V (zD0 V V V Vv) <| dO V V V (zX0 V V fo36_1 Vv) <| dO V V V (zG V V (far_get hil) ta27 V Vv) <| dO V V V (zH0 V V Vv) <| dOps_op V V (.cons (zA1 V V V co13 (rowsWithout_spec (woAll up ((coldT es up).take i)) k (by omega) _)) .nil) ?_
    refine dOps_op V V (.cons (zD0 V V V Vv) (.cons (zD0 V V V Vv) (.nil))) <| dO V V V (zX0 V V fo36_1 Vv) <| dOps_eff V V V V (op_store V V V (far_get hil) sz27 V V (zF V) ⟨rfl, far_set hil⟩) <| zO0 <| qR V <| qO V <| zU V V V V <| qM V V V <| qN ?_
    refine ⟨i + 1, by omega, by omega, by rw [woAll_step hs2], (.keep V (.keep V (.keep V (.keep V (.keep V (.nil)))))), (.eq V (zY0 hlt2 hlenc) (.nil))⟩
   ·
    have hge2 : i = (coldT es up).length := by simp at h50; omega
    refine mwp_exit <| zC ?_
    rw [hge2, List.take_length]
    refine mwp_draw [9] [_, (([] : MS) ++ (S.set hid (heatO mid (upR es hk up)) ++ [.cells [.ref hid 0], .cells [.lst none 1 ((hotR hk up).map encX)], .cells [.ref hid 0], .cells [.int .i64 6], .gone]))] mo (by decide) V V V V ?_
    refine dO V V V (zG V V (own_get V) ta24 V Vv) <| dO V V V (zG V V (own_get V) ta24 V Vv) <| dO V V V (zD0 V V V Vv) <| dO V V V (zX0 V V fo36_1 Vv) <| dO V V V (zG V V (far_get hil) ta27 V Vv) <| dO V V V (zG V V (own_get V) ta27 V Vv) <| dOps_op V V (.cons (zA1 V V V co14 (rowsBoth_spec (woAll up (coldT es up)) (hotR hk up) (by have := woAll_len up (coldT es up); have := hotR_len hk up; omega) _)) .nil) ?_
    refine dOps_op V V (.cons (zD0 V V V Vv) (.cons (zD0 V V V Vv) (.nil))) <| dO V V V (zX0 V V fo36_1 Vv) <| dOps_eff V V V V (op_store V V V (far_get hil) sz27 V V (zF V) ⟨rfl, far_set hil⟩) <| zO0 <| zC <| qR V <| qO V <| zG V V (own_get V) ta24 V <| qO V <| op_makeMapN (n := S.length + 5) (σ' := (([] : MS) ++ (S.set hid (heatO mid (upR es hk up)) ++ [.cells [.ref hid 0], .cells [.lst none 1 ((hotR hk up).map encX)], .cells [.ref hid 0], .cells [.int .i64 6], .gone, .mp 0 []]))) V (by simp) (by simp) ?_
    refine qO V <| op_build V Try.underlying34 zm34 (.cons fo34_0 sz32 V V (zF V) .nil) (by kernel_rfl) ?_
    refine qO V <| zD0 V V V <| qF V V V fo36_0 <| qO V <| op_store V V V (far_get hil) sz34 V V (zF V) <| wOps_to (([] : MS) ++ (S.set hid (heatO (S.length + 5) (upR es hk up)) ++ [.cells [.ref hid 0], .cells [.lst none 1 ((hotR hk up).map encX)], .cells [.ref hid 0], .cells [.int .i64 6], .gone, .mp 0 []])) (far_set hil) <| qN <| zC <| qR V <| qO V <| zG V V (own_get V) ta27 V <| qM V V V <| qA V V V <| qA V V V <| qN ?_
    refine zB0 fun hcv hcl => ?_
    refine zZ ?_
    exact ret_tmp2T (.inr V) Try.results7 V V (.refl _) (.refl _) (zZ0 _ _) (zZ0 _ _) (by simp) hcl Vv
 ·
  intro j y hy hp
  cases hp
end Go.Proofs.Ytplclefbiimnbaa
end
namespace Go.MV
open Go Go.RowKit
theorem cell_below {w w' : World} (hb : Below w.heap.size w w') {b : Nat} (hlt : b < w.heap.size) (i : Nat) : w'.cell? ⟨b, i, none⟩ = w.cell? ⟨b, i, none⟩ :=
 World.cell?_of_block (w := w) (a := ⟨b, i, none⟩) (hb.block b hlt)
theorem Le.grown {g : Gh} {σ : MS} {w w' : World} (h : Rel g σ w) (hb : Below w.heap.size w w') {b : Nat} (k : Nat) (hnb : w.heap.size ≤ b) : Le g w (g.stab b k) w' := by
 refine ⟨⟨rfl, rfl, fun c i hi => ?_, fun _ _ h => h, fun _ _ _ h => h, hb.size⟩, fun c x hx => ?_⟩
 ·have hlt := h.st_lt hi
  refine ⟨?_, cell_below hb hlt i⟩
  simp only [Gh.stab]
  rw [if_neg (by omega)]
  exact hi
 ·have hlt : c < w.heap.size := (Array.getElem?_eq_some_iff.1 hx).1
  exact (hb.block c hlt).trans hx
theorem Rel.grown {g : Gh} {σ : MS} {w w' : World} (h : Rel g σ w) (hb : Below w.heap.size w w') {b : Nat} (k : Nat) (hnb : w.heap.size ≤ b) (hbl : b < w'.heap.size) : Rel (g.stab b k) σ w' := by
 refine ⟨h.below.trans ⟨hb.os, hb.tape, hb.output, hb.size, fun i hi => hb.block i (Nat.lt_of_lt_of_le hi h.size)⟩, h.base, fun c hc => ?_, h.bkn, h.lgn, ?_⟩
 ·simp only [Gh.stab]
  rw [if_neg (by omega)]
  exact h.fresh c (by have := hb.size; omega)
 ·obtain ⟨own, ho⟩ := h.ex
  refine ⟨own, ho.keep (Le.grown h hb k hnb) (fun id c e => ?_) (fun _ _ => V)⟩
  have hlt := (ho.lt id c e).2.2
  refine ⟨hb.block c hlt, ?_⟩
  simp only [Gh.stab]
  rw [if_neg (by omega)]
theorem rd_texts {g : Gh} {w' : World} {b : Nat} {ss : List ByteArray} {cap : Nat} (hc : ss.length ≤ cap) (hm : cap ≤ maxLen) (hcell : ∀ j s, ss[j]? = some s → w'.cell? ⟨b, j, none⟩ = some (.string s)) : Rd (g.stab b ss.length) w' (.lst none 1 (ss.map MV.str)) (.slice (some ⟨b, 0, none⟩) ss.length cap) := by
 have hfl : flat (ss.map MV.str) = ss.map MV.str := by
  induction ss with
  | nil => rfl
  | cons x l ih =>
   rw [List.map_cons, flat_cons]
   have : flat (l.map MV.str) = l.map MV.str := by
    clear ih hcell hc
    induction l with
    | nil => rfl
    | cons y l ih => rw [List.map_cons, flat_cons, ih]; rfl
   rw [this]; rfl
 have hlen : (ss.map MV.str).length = ss.length := zI ..
 have := Rd.lst (g := g.stab b ss.length) (w := w') none 1 (ss.map MV.str) (some ⟨b, 0, none⟩) cap (ss.map Value.string) (by rw [hlen]; exact hc) hm (fun x hx => by
   obtain ⟨s, _, rfl⟩ := List.mem_map.1 hx
   rfl) (by rw [hfl]; simp) (fun j u hu => by
   rw [zL, Option.map_eq_some_iff] at hu
   obtain ⟨s, hs, rfl⟩ := hu
   have hj := (zB.1 hs).1
   refine ⟨_, rfl, ?_, ?_, rfl⟩
   ·rw [show (⟨b, 0, none⟩ : Addr).add j = ⟨b, j, none⟩ by unfold Addr.add; split <;> simp_all]
    simp only [Gh.stab, if_true]
    exact hj
   ·rw [show (⟨b, 0, none⟩ : Addr).add j = ⟨b, j, none⟩ by unfold Addr.add; split <;> simp_all]
    exact hcell j s hs) (fun j y u hy hu => by
   rw [hfl, zL, Option.map_eq_some_iff] at hy
   rw [zL, Option.map_eq_some_iff] at hu
   obtain ⟨s, hs, rfl⟩ := hu
   obtain ⟨s2, hs2, rfl⟩ := hy
   rw [hs] at hs2
   injection hs2 with e
   subst e
   exact .str _) (fun t ht => by cases ht)
 rwa [hlen] at this
end Go.MV
section
namespace Go.Proofs
open Go.Shelf
shelf_lay Lays2.n16 Nm2 16 at Try as Try.laysClone
end Go.Proofs
namespace Go.Proofs.Ytplclefbiimnbaa
open Go Go.MV Go.RowKit Go.Shelf Go.Sort
def CLeft (w : World) (ss : List (List UInt8)) (e : Ending) (w' : World) : Prop :=
 ∃ v', e = .returned v' ∧ w'.ownsRow w.heap.size 9 1 v' ss.length (ss.map encStr) ∧ v' ≠ .slice none 0 0 ∧ Below w.heap.size w w'
theorem flat_X (l : List Bs) : flat (l.map encX) = l.map encX := by
 induction l with
 | nil => rfl
 | cons x l ih => rw [List.map_cons, flat_cons, ih]; rfl
theorem clone_got {g : Gh} {σ : MS} {w w' : World} {e : Ending} {ss : List Bs} (hrel : Rel g σ w) (h : CLeft w ss e w') : ∃ v, e = .returned v ∧ Gets g w (fun x σ' => x = .lst none 1 (ss.map encX) ∧ σ' = σ) v w' := by
 obtain ⟨v', rfl, hown, hnn, hbel⟩ := h
 rcases hown.2 with ⟨h0, _⟩ | ⟨b, cap, cur, hv, hb, hg, h1, h2, h3, h4⟩
 ·exact absurd h0 hnn
 subst hv
 have hbl : b < w'.heap.size := (Array.getElem?_eq_some_iff.1 hg).1
 refine ⟨_, rfl, _, σ, g.stab b ss.length, Vv, hrel.grown hbel _ hb hbl, ?_, Le.grown hrel hbel _ hb⟩
 have := rd_texts (g := g) (w' := w') (b := b) (ss := ss.map bs) (cap := cap) (by simpa using h1) h2 (fun j s hs => by
  rw [zL, Option.map_eq_some_iff] at hs
  obtain ⟨x, hx, rfl⟩ := hs
  have hj := (zB.1 hx).1
  have hk : cur.toList[j]? = some (Value.string (bs x)) := by
   have e1 : (cur.toList.take (ss.length * 1))[j]? = some (encStr x) := by rw [h4, zL, hx]; rfl
   rw [List.getElem?_take, if_pos (by omega)] at e1
   exact e1
  rw [Array.getElem?_toList] at hk
  show World.cell? w' ⟨b, j, none⟩ = _
  simp [World.cell?, hg, hk])
 rw [List.map_map, zI] at this
 exact this
theorem clone_spec (l : List Bs) (hl : l.length ≤ 1000000) (S : MS) : MCalls Try.prog 15 [.lst none 1 (l.map encX)] S fun v σ' => v = .lst none 1 (l.map encX) ∧ σ' = S := by
 intro g w vs hrel hrd
 obtain ⟨u, us, rfl, h1, h2⟩ := hrd.uncons
 have e3 : us = [] := List.eq_nil_of_length_eq_zero h2.1
 subst e3
 obtain ⟨a, c, us, rfl, hc, hm, hsz, hrds, hst, _⟩ := h1.inv_lst
 rw [flat_X] at hrds
 have hul : us.length = l.length := by rw [hrds.1, zI]
 rw [zI]
 cases a with
 | none =>
  have hn : l = [] := by
   cases l with
   | nil => rfl
   | cons x l =>
    cases us with
    | nil => simp at hul
    | cons u us =>
     obtain ⟨ad, h, _⟩ := hst 0 u rfl
     cases h
  subst hn
  refine (callsIn_wide.2 (calls_of_every_depth fun D => AnyS.slices_Clone_string_nil_in Try.laysClone D _ c w)).mono ?_
  rintro e w' ⟨rfl, rfl⟩
  refine ⟨_, rfl, _, S, g, Vv, hrel, ?_, .refl _ _⟩
  exact .lst none 1 [] none 0 [] (Nat.le_refl _) (Nat.zero_le _) (fun x hx => by cases hx) rfl (fun j u h => by simp at h) (fun j y u h => by simp [flat] at h) (fun t h => by cases h)
 | some ad =>
  cases l with
  | nil =>
   refine (callsIn_wide.2 (calls_of_every_depth fun D => AnyS.slices_Clone_string_zero_in Try.laysClone D ad c w)).mono ?_
   rintro e w' ⟨v', h1, h2, h3, h4⟩
   exact clone_got hrel ⟨v', h1, h2, h3, h4⟩
  | cons x0 l0 =>
   generalize hL : x0 :: l0 = l at *
   have hpos : 0 < us.length := by rw [hul, ← hL]; simp
   obtain ⟨ad', e, hs⟩ := hst 0 us[0] (zA hpos)
   cases e
   have hspot := cell_spot hs.2.1
   have had : ad = ⟨ad.block, ad.off, none⟩ := by
    obtain ⟨b, o, s⟩ := ad
    cases s with
    | none => rfl
    | some q => simp [Addr.add] at hspot
   rw [had]
   have hcell : ∀ j, j < (l.map bs).length → w.cell? ⟨ad.block, ad.off + j, none⟩ = some (.string ((l.map bs).getD j ByteArray.empty)) := fun j hj => by
    rw [zI] at hj
    have hj' : j < us.length := by omega
    obtain ⟨ad', e, hs⟩ := hst j us[j] (zA hj')
    cases e
    obtain ⟨u, hu, hr⟩ := hrds.get (j := j) (y := encX l[j]) (by rw [zL, zA hj]; rfl)
    rw [zA hj'] at hu
    cases hu
    have e1 : us[j] = .string (bs l[j]) := (show Rd g w (.str (bs l[j])) us[j] from hr).inv_str
    have := hs.2.1
    rw [had, add_off, e1] at this
    rw [this]
    simp [hj]
   refine (callsIn_wide.2 (calls_of_every_depth fun D => AnyS.slices_Clone_string_in Try.laysClone D ad.block ad.off l.length c (l.map bs) w (by simp) (by omega) hcell)).mono ?_
   rintro e w' ⟨v', h1, h2, h3, h4⟩
   refine clone_got hrel ⟨v', h1, ?_, h3, h4⟩
   rw [List.take_of_length_le (by simp), List.map_map] at h2
   exact h2
end Go.Proofs.Ytplclefbiimnbaa
end
namespace Go.Proofs.Ytplclefbiimnbaa
open Go Go.MV
def K1 : Bs := [109, 49]
def K2 : Bs := [109, 50]
def esK : Nat → List ME
 | 0 => []
 | n + 1 => [(bs K1, .int .i64 ((n + 1 : Nat) : Int), 0)]
def clkK : Nat → Nat
 | 0 => 0
 | _ + 1 => 1
def upL (u : Bool) : List Bs := if u then [K1] else []
theorem ask_K1 (n : Nat) : askE K1 (n + 1) (clkK n) (esK n) = .mp (clkK (n + 1)) (esK (n + 1)) := by
 cases n with
 | zero => rfl
 | succ n => simp [askE, esK, clkK, mpClk, mpPut, mpIdx]
theorem look_K1 (n : Nat) : (mpLook (bs K1) (esK n)).getD (.int .i64 0) = .int .i64 (n : Int) := by
 cases n with
 | zero => rfl
 | succ n => simp [esK, mpLook]
theorem esK_len (n : Nat) : (esK n).length ≤ 1 := by cases n <;> simp [esK]
theorem bs_ne : ¬ bs K1 = bs K2 := by decide
def esX : List ME := [(bs K1, .int .i64 ((6 : Nat) : Int), 0), (bs K2, .int .i64 ((1 : Nat) : Int), 1)]
theorem ask_K2 : askE K2 (0 + 1) (clkK 6) (esK 6) = .mp 2 esX := by
 simp [askE, esK, clkK, mpClk, mpPut, mpIdx, esX, bs_ne]
theorem look_K2 : (mpLook (bs K2) (esK 6)).getD (.int .i64 0) = .int .i64 ((0 : Nat) : Int) := by
 simp [esK, mpLook, bs_ne]
theorem one_X : OneHot esX (some (bs K1, .int .i64 ((6 : Nat) : Int), 0)) := by
 refine ⟨fun e he => ?_, fun e he => ?_, by simp [esX]⟩
 ·simp only [esX, List.mem_cons, List.not_mem_nil, or_false] at he
  rcases he with rfl | rfl
  ·exact ⟨6, rfl, by simp⟩
  ·refine ⟨1, rfl, ⟨fun h => by omega, fun h => ?_⟩⟩
   injection h with h
   injection h with h1 h2
   exact absurd h1 bs_ne
 ·injection he with he
  subst he
  simp [esX]
theorem getElem?_own0 {S L : MS} {o : MObj} : (S ++ o :: L)[S.length]? = some o := get_mid
theorem set_own0 {S L : MS} {o p : MObj} : (S ++ o :: L).set S.length p = S ++ p :: L := set_mid
theorem one_none : OneHot [] none := ⟨fun e he => (by cases he), fun e he => (by cases he), by simp⟩
theorem up_one (k : Bs) : Up [k] := .cons (fun y hy => by cases hy) .nil
theorem heatUp_spec (S : MS) (hid mid : Nat) (up : List Bs) (hul : up.length ≤ 1000) (hS : S[hid]? = some (heatO mid up)) : MCalls Try.prog 8 [.ref hid 0] S fun v σ' => v = .lst none 1 (up.map encX) ∧ σ' = S := by
 refine zW Try.func8 V Try.ntmps8 (zF V) ?_
 refine zC <| qR V <| qA V V V <| qN <| zC <| qR V <| qM V V V <| qO V <| zD0 V V V <| qF V V V fo36_1 <| qO V <| zB1 V V hS ta27 V ?_
 refine qX V V V V co15 (clone_spec up (by omega) _) ?_
 refine qA V V V <| qN <| zZ ?_
 exact zC1 (.inr V) Try.results8 V (.refl _) (zZ0 _ _) Vv
theorem _root_.zV0 : type_of% @heatUp_spec := @heatUp_spec
theorem kn1 : hotR (some K1) [] = [K1] := by simp [hotR, hotJ]
theorem kn2 (es : List ME) : coldT es [] = [] := rfl
theorem kn3 : upR esX (some K1) [] = [K1] := by
 show bothX (woAll [] []) (hotR (some K1) []) = _
 rw [kn1]
 exact both_one K1
theorem kn4 (u : List Bs) : hotR none u = [] := rfl
theorem kn5 : coldT [] [K1] = [K1] := both_one K1
theorem kn6 : upR [] none [K1] = [] := by
 show bothX (woAll [K1] (coldT [] [K1])) [] = _
 rw [kn5]
 show bothX (woT K1 [K1]) [] = []
 simp [woT, both_end]
theorem knownH_spec (S : MS) : MCalls Try.prog 4 [] S fun v σ' => v = .bool true ∧ σ' = S := by
 refine zW Try.func4 V Try.ntmps4 (zF V) ?_
 refine zC <| qR V <| qA V V V <| qN <| zC <| qR V ?_
 refine qX V V V V co5 (heatNew_spec _) ?_
 rw [List.append_nil]
 refine qA V V V <| qN <| zC <| zC <| qR V <| qM V V V <| qO V <| op_ptrnil V Try.underlying24 V V V (.inl Vv) <| qN <| zP V (V) <| zQ <| zC <| zC <| mwp_cellsub 1 V (.cons (.refl _) (.cons (.nil 1) .nil)) V <| qR V <| qA V V V <| qN <| zA0 ?_
 refine zD1 (α := Nat) [(1, _)] (fun i => [(2, .int .i64 (i : Int))]) (fun i => [.mp (clkK i) (esK i), heatO S.length []]) (fun i => i ≤ 6) (fun i => 6 - i) (0) (.keep V (.nil)) (.keep V (.nil)) (by omega) (V) ?_
 rintro i hi
 refine zC <| zC <| qR V <| qM V V V <| qC V V V V V <| qN ?_
 refine zS V (fun h12 => ?_) (fun h12 => ?_)
 ·
  have hlt : i < 6 := by simp at h12; omega
  refine zQ <| zC <| zA0 <| qR V <| qM V V V ?_
  refine qX V V V V co6 (heatAsk_spec _ (S.length + 1) S.length (clkK i) i (esK i) _ K1 (show _ = some (heatO S.length []) by rw [getElem?_own]; rfl) (getElem?_own0) (look_K1 i) (by omega) (by have := esK_len i; omega)) ?_
  refine wOps_to (S ++ [.mp (clkK (i + 1)) (esK (i + 1)), heatO S.length []]) (by rw [ask_K1]; exact set_own0) ?_
  refine qN <| qR V <| qM V V V <| qO V <| zU V V V V <| qA V V V <| qN ?_
  refine ⟨i + 1, by omega, by omega, rfl, (.keep V (.nil)), (.eq V (zY0 hlt (by decide)) (.nil))⟩
 ·
  have hge : i = 6 := by simp at h12; omega
  subst hge
  refine mwp_exit <| zC <| qR V <| qM V V V ?_
  refine qX V V V V co6 (heatAsk_spec _ (S.length + 1) S.length (clkK 6) 0 (esK 6) _ K2 (show _ = some (heatO S.length []) by rw [getElem?_own]; rfl) (getElem?_own0) look_K2 (by omega) (by decide)) ?_
  refine wOps_to (S ++ [.mp 2 esX, heatO S.length []]) (by rw [ask_K2]; exact set_own0) ?_
  refine qN <| zC <| qR V <| qM V V V ?_
  refine qX V V V V co7 (heatTurn_spec _ (S.length + 1) S.length 2 esX (some (bs K1, .int .i64 ((6 : Nat) : Int), 0)) (some K1) [] one_X (by simp [esX]) V .nil (by simp) (by rw [getElem?_own]; rfl) getElem?_own0) ?_
  rw [kn1, kn2]
  refine wOps_to (S ++ ([.mp 2 esX, heatO (S.length + 7) [K1]] ++ [.cells [.ref (S.length + 1) 0], .cells [.lst none 1 ([K1].map encX)], .cells [.ref (S.length + 1) 0], .cells [.int .i64 6], .gone, .mp 0 []])) (by rw [kn3, show List.length (S ++ [MObj.mp 2 esX, heatO S.length []]) + 5 = S.length + 7 by simp, set_own, zK]; rfl) ?_
  refine qM V V V <| qO V <| zJ0 V V V <| qO V <| zJ0 V V V <| qA V V V <| qA V V V <| qN <| zC <| qR V <| qM V V V ?_
  refine qX V V V V co8 (zV0 _ (S.length + 1) (S.length + 7) [K1] (by simp) (by rw [getElem?_own]; rfl)) ?_
  refine qA V V V <| qN <| zC <| qR V <| qM V V V ?_
  refine qX V V V V co7 (heatTurn_spec _ (S.length + 1) (S.length + 7) 0 [] none none [K1] one_none (by simp) V (up_one _) (by simp) (by rw [getElem?_own]; rfl) (by rw [getElem?_own]; rfl)) ?_
  rw [kn4, kn5]
  refine wOps_to (S ++ ([.mp 2 esX, heatO (S.length + 13) []] ++ [.cells [.ref (S.length + 1) 0], .cells [.lst none 1 ([K1].map encX)], .cells [.ref (S.length + 1) 0], .cells [.int .i64 6], .gone, .mp 0 []] ++ [.cells [.ref (S.length + 1) 0], .cells [.lst none 1 (([] : List Bs).map encX)], .cells [.ref (S.length + 1) 0], .cells [.int .i64 6], .gone, .mp 0 []])) (by rw [kn6, show List.length (S ++ ([.mp 2 esX, heatO (S.length + 7) [K1]] ++ [.cells [.ref (S.length + 1) 0], .cells [.lst none 1 ([K1].map encX)], .cells [.ref (S.length + 1) 0], .cells [.int .i64 6], .gone, .mp 0 []])) + 5 = S.length + 13 by simp, set_own, zK]; rfl) ?_
  refine qM V V V <| qO V <| zJ0 V V V <| qO V <| zJ0 V V V <| qA V V V <| qA V V V <| qN <| zC <| qR V <| qM V V V <| qE V V zH V <| qC V V V V V <| qM V V V <| qM V V V <| qO V <| zN V zH sz9 (by decide) V V V (show (([K1] : List Bs).map encX)[0]? = some (encX K1) from V) ?_
  refine qO V <| zM V V ta9 V <| qO V <| zN0 V V V V <| qP V V V V <| qM V V V <| qM V V V <| qE V V zH V <| qC V V V V V <| qP V V V V <| qM V V V <| qM V V V <| qE V V zH V <| qC V V V V V <| qP V V V V <| qM V V V <| qM V V V ?_
  refine qE V V zH V <| qC V V V V V <| qP V V V V <| qM V V V <| qM V V V <| qE V V zH V <| qC V V V V V <| qP V V V V <| qM V V V <| qM V V V <| qO V <| zN V zH sz9 (by decide) V V V (show (([K1] : List Bs).map encX)[0]? = some (encX K1) from V) ?_
  refine qO V <| zM V V ta9 V <| qO V <| zN0 V V V V <| qP V V V V <| qM V V V <| qM V V V ?_
  refine qX V V V V co8 (zV0 _ (S.length + 1) (S.length + 13) [] (by simp) (by rw [getElem?_own]; rfl)) ?_
  refine qE V V zH V <| qC V V V V V <| qP V V V V <| qA V V V <| qN <| zZ ?_
  exact zC1 (.inr V) Try.results4 V (.of_eq (V)) (.bool _) Vv
def hotK (k : Nat) : Option ME := if 6 ≤ k then some (bs K1, .int .i64 (k : Int), 0) else none
def hkK (k : Nat) : Option Bs := if 6 ≤ k then some K1 else none
theorem one_K (k : Nat) : OneHot (esK k) (hotK k) := by
 cases k with
 | zero => exact one_none
 | succ k =>
  refine ⟨fun e he => ?_, fun e he => ?_, by simp [esK]⟩
  ·simp only [esK, List.mem_cons, List.not_mem_nil, or_false] at he
   subst he
   refine ⟨k + 1, rfl, ?_⟩
   unfold hotK
   by_cases h : 6 ≤ k + 1
   ·rw [if_pos h]
    exact ⟨fun _ => rfl, fun _ => h⟩
   ·rw [if_neg h]
    exact ⟨fun h' => absurd h' h, fun h' => by cases h'⟩
  ·unfold hotK at he
   by_cases h : 6 ≤ k + 1
   ·rw [if_pos h] at he
    injection he with he
    subst he
    simp [esK]
   ·rw [if_neg h] at he
    cases he
theorem old_K (k : Nat) : ∀ e ∈ esK k, e.2.2 < clkK k := by
 cases k with
 | zero => intro e he; cases he
 | succ k =>
  intro e he
  simp only [esK, List.mem_cons, List.not_mem_nil, or_false] at he
  subst he
  exact Nat.zero_lt_one
theorem hhk_K (k : Nat) : (hotK k).map (·.1) = (hkK k).map bs := by
 unfold hotK hkK
 split <;> rfl
theorem up_upL (u : Bool) : Up (upL u) := by
 cases u
 ·exact .nil
 ·exact up_one K1
theorem upL_len (u : Bool) : (upL u).length ≤ 1000 := by cases u <;> simp [upL]
theorem cnt_K (k : Nat) : cntN (esK k) K1 = k := by
 cases k with
 | zero => rfl
 | succ k => simp [cntN, esK, mpLook]
theorem wo_K1 : woT K1 [K1] = [] := by simp [woT]
def uN (u : Bool) (k : Nat) : Bool := (u && decide (0 < k)) || decide (6 ≤ k)
theorem r_hot (u : Bool) (k : Nat) : hotR (hkK k) (upL u) = upL (!u && decide (6 ≤ k)) := by
 unfold hkK
 by_cases h : 6 ≤ k
 ·rw [if_pos h]
  cases u <;> simp [hotR, hotJ, upL, h]
 ·rw [if_neg h]
  cases u <;> simp [hotR, hotJ, upL, h]
theorem r_cold (u : Bool) (k : Nat) : coldT (esK k) (upL u) = upL (u && decide (k = 0)) := by
 cases u
 ·rfl
 ·by_cases h : k = 0
  ·simp only [upL, coldT, List.foldl_cons, List.foldl_nil, cnt_K, h, if_true, Bool.true_and, decide_true]
   exact both_one K1
  ·simp [upL, coldT, cnt_K, h]
theorem r_up (u : Bool) (k : Nat) : upR (esK k) (hkK k) (upL u) = upL (uN u k) := by
 unfold upR
 rw [r_hot, r_cold]
 cases u
 ·show bothX (woAll [] []) (upL (decide (6 ≤ k))) = upL (uN false k)
  by_cases h : 6 ≤ k
  ·simp only [uN, h, decide_true, Bool.false_and, Bool.false_or]
   exact both_one K1
  ·simp only [uN, h, decide_false, Bool.false_and, Bool.false_or]
   exact both_end
 ·show bothX (woAll [K1] (upL (decide (k = 0)))) [] = _
  rw [both_nil]
  by_cases h : k = 0
  ·subst h
   exact wo_K1
  ·have h2 : 0 < k := by omega
   simp [uN, h, h2, upL, woAll]
theorem upL_one (b : Bool) : intCmp .eql ((((upL b).map encX).length : Nat) : Int) 1 = some b := by cases b <;> rfl
theorem _root_.zQ0 : type_of% @upL_one := @upL_one
theorem six_le (k : Nat) : intCmp .geq (k : Int) 6 = some (decide (6 ≤ k)) := by simp [intCmp]; omega
theorem six (u : Bool) (k : Nat) : (u = false ∧ decide (0 < k) = false ∧ decide (k = 0) = true ∧ decide (6 ≤ k) = false) ∨ (u = false ∧ decide (0 < k) = true ∧ decide (k = 0) = false ∧ decide (6 ≤ k) = false) ∨ (u = false ∧ decide (0 < k) = true ∧ decide (k = 0) = false ∧ decide (6 ≤ k) = true) ∨ (u = true ∧ decide (0 < k) = false ∧ decide (k = 0) = true ∧ decide (6 ≤ k) = false) ∨ (u = true ∧ decide (0 < k) = true ∧ decide (k = 0) = false ∧ decide (6 ≤ k) = false) ∨ (u = true ∧ decide (0 < k) = true ∧ decide (k = 0) = false ∧ decide (6 ≤ k) = true) := by
 simp only [decide_eq_true_eq, decide_eq_false_iff_not]
 cases u <;> simp <;> omega
theorem k_zero (k : Nat) : intCmp .eql (k : Int) 0 = some (decide (k = 0)) := by
 show some ((k : Int) == 0) = _
 congr 1
 rw [Bool.eq_iff_iff, beq_iff_eq, decide_eq_true_iff]
 omega
theorem k_pos (k : Nat) : intCmp .gtr (k : Int) 0 = some (decide (0 < k)) := by simp [intCmp]
theorem turn_get {J0 : MS} {X o1 o2 o3 o4 o5 : MObj} (h : 1 < J0.length) : (J0.set 1 X ++ [o1, o2, o3, o4, o5, .mp 0 []])[1]? = some X ∧ (J0.set 1 X ++ [o1, o2, o3, o4, o5, .mp 0 []])[J0.length + 5]? = some (.mp 0 []) := by
 refine ⟨?_, ?_⟩
 ·rw [List.getElem?_append_left (by simpa using h), List.getElem?_set_self h]
 ·rw [List.getElem?_append_right (by simp), List.length_set, Nat.add_sub_cancel_left]
  rfl
theorem _root_.zR : type_of% @Try.underlying4 := @Try.underlying4
theorem HeatCounts_spec (l : List UInt8) : MCalls Try.prog 3 [.lst none 1 (l.map encY)] [] fun v σ' => v = .bool true ∧ σ' = [] := by
 refine zW Try.func3 V Try.ntmps3 (zF V) ?_
 refine zC <| qR V <| qA V V V <| qN <| zC <| zC <| qR V ?_
 refine zL0 V (zA1 V V V co4 ((knownH_spec _).mono ?_))
 rintro _ σq ⟨rfl, rfl⟩
 refine qO V <| zG0 V V <| qN <| zP V (V) <| zQ <| zC <| zC <| qR V <| qM V V V <| qE V V Try.underlying22 V <| qC V V V V V <| qN ?_
 refine zS V (fun h14 => ?_) (fun h14 => ?_)
 ·
  refine zC <| qR V <| qA V V V <| qN <| zZ ?_
  exact zC1 (.inr V) Try.results3 V (.of_eq (V)) (.bool _) Vv
 ·
  have hl20 : l.length ≤ 20 := by simp at h14; omega
  have hlen : l.length ≤ maxLen := by simp only [maxLen]; omega
  refine zQ <| zC <| qR V ?_
  refine zL0 V (zA1 V V V co5 ((heatNew_spec _).mono ?_))
  rintro _ σq ⟨rfl, rfl⟩
  refine qA V V V <| qN <| zC <| mwp_cellsub 1 V (.cons (.refl _) (.cons (.nil 1) .nil)) V <| qR V <| qA V V V <| qN <| zC <| zC <| qR V <| qA V V V <| qN <| zA0 ?_
  refine zD1 (α := Nat × Bool × MS) [(0, _), (3, _)] (fun x => [(5, .int .i64 (x.1 : Int)), (4, .bool x.2.1)]) (fun x => x.2.2) (fun x => x.1 ≤ l.length ∧ ∃ mid, x.2.2[1]? = some (heatO mid (upL x.2.1)) ∧ x.2.2[mid]? = some (.mp 0 []) ∧ mid ≠ 1) (fun x => l.length - x.1) (⟨0, false, [.mp 0 [], heatO 0 []]⟩) (.keep V (.keep V (.nil))) (.keep V (.keep V (.nil))) (⟨Nat.zero_le _, 0, rfl, rfl, by decide⟩) (V) ?_
  rintro ⟨i, u, J⟩ ⟨hi, mid, hJ1, hJm, hne⟩
  dsimp only at hi hJ1 hJm ⊢
  have g1 : ∀ o, (([] : MS) ++ J.set mid o)[1]? = some (heatO mid (upL u)) := fun o => by rw [List.nil_append, List.getElem?_set_ne hne]; exact hJ1
  have gm : ∀ o, (([] : MS) ++ J.set mid o)[mid]? = some o := fun o => by rw [List.nil_append, List.getElem?_set_self (zB.1 hJm).1]
  refine zC <| zC <| qR V <| qM V V V <| qM V V V <| qE V V Try.underlying22 V <| qC V V V V V <| qN ?_
  refine zS V (fun h19 => ?_) (fun h19 => ?_)
  ·
   have hlt : i < l.length := by simpa using h19
   obtain ⟨b, hs⟩ : ∃ q_, l[i]? = some q_ := ⟨_, zA hlt⟩
   refine zQ <| zC <| zA0 <| zC <| qR V <| qM V V V <| qM V V V <| qO V <| zN V Try.underlying22 sz5 (by decide) V V V (zF0 hs) ?_
   refine qO V <| zM V V ta5 V <| qO V <| op_rem V V V (by decide) (show Int.tmod ((b.toNat : Nat) : Int) 12 = ((b.toNat % 12 : Nat) : Int) from V) ?_
   refine qO V <| op_convInt V Try.underlying5 Try.underlying3 V (i64_nat (show b.toNat % 12 < _ by omega)) ?_
   refine qA V V V <| qN <| zC <| zC ?_
   obtain ⟨k, hk⟩ : ∃ k, k = b.toNat % 12 := ⟨_, rfl⟩
   rw [← hk]
   have hk12 : k < 12 := by omega
   refine qR V <| qA V V V <| qN <| zA0 <| mwp_to (([] : MS) ++ J.set mid (.mp (clkK 0) (esK 0))) (by rw [List.nil_append, List.nil_append]; exact (set_selfO hJm).symm) ?_
   refine zD1 (α := Nat) [(0, _), (3, _), (4, _), (5, _), (6, _)] (fun j => [(7, .int .i64 (j : Int))]) (fun j => J.set mid (.mp (clkK j) (esK j))) (fun j => j ≤ k) (fun j => k - j) (0) (.keep V (.keep V (.keep V (.keep V (.keep V (.nil)))))) (.keep V (.nil)) (by omega) (V) ?_
   rintro j hj
   refine zC <| zC <| qR V <| qM V V V <| qM V V V <| qC V V V V V <| qN ?_
   refine zS V (fun h30 => ?_) (fun h30 => ?_)
   ·
    have hjk : j < k := by simp at h30; omega
    refine zQ <| zC <| zA0 <| qR V <| qM V V V ?_
    refine zL0 V (zA1 V V V co6 ((heatAsk_spec _ 1 mid (clkK j) j (esK j) _ K1 (g1 _) (gm _) (look_K1 j) (by omega) (by have := esK_len j; omega)).mono ?_))
    rintro _ σq ⟨rfl, rfl⟩
    refine wOps_to (([] : MS) ++ J.set mid (.mp (clkK (j + 1)) (esK (j + 1)))) (by rw [ask_K1, List.nil_append, List.nil_append, List.set_set]) ?_
    refine qN <| qR V <| qM V V V <| qO V <| zU V V V V <| qA V V V <| qN ?_
    refine ⟨j + 1, by omega, by omega, rfl, (.keep V (.keep V (.keep V (.keep V (.keep V (.nil)))))), (.eq V (zY0 hjk (by simp only [maxLen]; omega)) (.nil))⟩
   ·
    have hjk : k = j := by simp at h30; omega
    subst hjk
    refine mwp_exit <| zC <| qR V <| qM V V V ?_
    refine zL0 V (zA1 V V V co7 ((heatTurn_spec _ 1 mid (clkK k) (esK k) (hotK k) (hkK k) (upL u) (one_K k) (old_K k) (hhk_K k) (up_upL u) (upL_len u) (g1 _) (gm _)).mono ?_))
    rintro _ σq ⟨rfl, rfl⟩
    rw [r_hot, r_cold, r_up]
    obtain ⟨J0, hJ0⟩ : ∃ J0, J0 = (([] : MS) ++ J.set mid (.mp (clkK k) (esK k))) := ⟨_, rfl⟩
    rw [← hJ0]
    have hl0 : 1 < J0.length := by rw [hJ0]; exact (zB.1 (g1 _)).1
    have hg := turn_get (J0 := J0) (X := heatO (J0.length + 5) (upL (uN u k))) (o1 := .cells [.ref 1 0]) (o2 := .cells [.lst none 1 ((upL (!u && decide (6 ≤ k))).map encX)]) (o3 := .cells [.ref 1 0]) (o4 := .cells [.int .i64 6]) (o5 := .gone) hl0
    generalize (J0.set 1 (heatO (J0.length + 5) (upL (uN u k))) ++ [.cells [.ref 1 0], .cells [.lst none 1 ((upL (!u && decide (6 ≤ k))).map encX)], .cells [.ref 1 0], .cells [.int .i64 6], .gone, .mp 0 []] : MS) = J' at hg ⊢
    obtain ⟨hJ'1, hJ'm⟩ := hg
    refine qM V V V <| qO V <| zJ0 V V V <| qO V <| zJ0 V V V <| qA V V V <| qA V V V <| qN <| zC <| zC ?_
    rcases six u k with ⟨rfl, h0, hz, h6⟩ | ⟨rfl, h0, hz, h6⟩ | ⟨rfl, h0, hz, h6⟩ | ⟨rfl, h0, hz, h6⟩ | ⟨rfl, h0, hz, h6⟩ | ⟨rfl, h0, hz, h6⟩
    ·
     refine qR V <| qM V V V <| qE V V zH V <| qC V V V V ((zQ0 _).trans (show _ = some false by rw [h6]; rfl)) ?_
     refine qM V V V <| qO V <| zG0 V V <| qM V V V <| qM V V V <| qC V V V V ((six_le _).trans (show _ = some false by rw [h6])) ?_
     refine qP V V V V <| qO V <| zK0 V zR V V <| qM V V V <| qM V V V <| qE V V zH V <| qC V V V V ((zQ0 _).trans (show _ = some false by rw [hz]; rfl)) ?_
     refine qM V V V <| qM V V V <| qS V <| qS V <| qP V V V V <| qO V <| zK0 V zR V V <| qP V V V V <| qN <| zP V (V) <| zQ <| zC <| qR V <| qM V V V <| qM V V V <| qS V <| qS V <| qP V V V V <| qM V V V <| qM V V V <| qC V V V V ((six_le _).trans (show _ = some false by rw [h6])) ?_
     refine qP V V V V <| qA V V V <| qN <| zC <| qR V <| qM V V V ?_
     refine zL0 V (zA1 V V V co8 ((zV0 _ 1 _ (upL (uN false k)) (upL_len _) hJ'1).mono ?_))
     rintro _ σq ⟨rfl, rfl⟩
     refine qE V V zH V <| qC V V V V ((zQ0 _).trans (show _ = some false by simp only [uN, h0, h6]; rfl)) ?_
     refine qM V V V <| qO V <| zK0 V zR V V <| qN <| zP V (V) <| zQ <| qR V <| qM V V V <| qO V <| zU V V V V <| qA V V V <| qN ?_
     refine ⟨⟨i + 1, uN false k, σq⟩, by dsimp only; omega, ⟨by dsimp only; omega, _, hJ'1, hJ'm, by omega⟩, rfl, (.keep V (.keep V (.nil))), (.eq V (zY0 hlt hlen) (.eq V (by simp only [uN, h0, h6]; rfl) (.nil)))⟩
    ·
     refine qR V <| qM V V V <| qE V V zH V <| qC V V V V ((zQ0 _).trans (show _ = some false by rw [h6]; rfl)) ?_
     refine qM V V V <| qO V <| zG0 V V <| qM V V V <| qM V V V <| qC V V V V ((six_le _).trans (show _ = some false by rw [h6])) ?_
     refine qP V V V V <| qO V <| zK0 V zR V V <| qM V V V <| qM V V V <| qE V V zH V <| qC V V V V ((zQ0 _).trans (show _ = some false by rw [hz]; rfl)) ?_
     refine qM V V V <| qM V V V <| qS V <| qS V <| qP V V V V <| qO V <| zK0 V zR V V <| qP V V V V <| qN <| zP V (V) <| zQ <| zC <| qR V <| qM V V V <| qM V V V <| qS V <| qS V <| qP V V V V <| qM V V V <| qM V V V <| qC V V V V ((six_le _).trans (show _ = some false by rw [h6])) ?_
     refine qP V V V V <| qA V V V <| qN <| zC <| qR V <| qM V V V ?_
     refine zL0 V (zA1 V V V co8 ((zV0 _ 1 _ (upL (uN false k)) (upL_len _) hJ'1).mono ?_))
     rintro _ σq ⟨rfl, rfl⟩
     refine qE V V zH V <| qC V V V V ((zQ0 _).trans (show _ = some false by simp only [uN, h0, h6]; rfl)) ?_
     refine qM V V V <| qO V <| zK0 V zR V V <| qN <| zP V (V) <| zQ <| qR V <| qM V V V <| qO V <| zU V V V V <| qA V V V <| qN ?_
     refine ⟨⟨i + 1, uN false k, σq⟩, by dsimp only; omega, ⟨by dsimp only; omega, _, hJ'1, hJ'm, by omega⟩, rfl, (.keep V (.keep V (.nil))), (.eq V (zY0 hlt hlen) (.eq V (by simp only [uN, h0, h6]; rfl) (.nil)))⟩
    ·
     refine qR V <| qM V V V <| qE V V zH V <| qC V V V V ((zQ0 _).trans (show _ = some true by rw [h6]; rfl)) ?_
     refine qM V V V <| qO V <| zG0 V V <| qM V V V <| qM V V V <| qC V V V V ((six_le _).trans (show _ = some true by rw [h6])) ?_
     refine qP V V V V <| qO V <| zK0 V zR V V <| qM V V V <| qM V V V <| qE V V zH V <| qC V V V V ((zQ0 _).trans (show _ = some false by rw [hz]; rfl)) ?_
     refine qM V V V <| qM V V V <| qS V <| qS V <| qP V V V V <| qO V <| zK0 V zR V V <| qP V V V V <| qN <| zP V (V) <| zQ <| zC <| qR V <| qM V V V <| qM V V V <| qS V <| qS V <| qP V V V V <| qM V V V <| qM V V V <| qC V V V V ((six_le _).trans (show _ = some true by rw [h6])) ?_
     refine qP V V V V <| qA V V V <| qN <| zC <| qR V <| qM V V V ?_
     refine zL0 V (zA1 V V V co8 ((zV0 _ 1 _ (upL (uN false k)) (upL_len _) hJ'1).mono ?_))
     rintro _ σq ⟨rfl, rfl⟩
     refine qE V V zH V <| qC V V V V ((zQ0 _).trans (show _ = some true by simp only [uN, h0, h6]; rfl)) ?_
     refine qM V V V <| qO V <| zK0 V zR V V <| qN <| zP V (V) <| zQ <| qR V <| qM V V V <| qO V <| zU V V V V <| qA V V V <| qN ?_
     refine ⟨⟨i + 1, uN false k, σq⟩, by dsimp only; omega, ⟨by dsimp only; omega, _, hJ'1, hJ'm, by omega⟩, rfl, (.keep V (.keep V (.nil))), (.eq V (zY0 hlt hlen) (.eq V (by simp only [uN, h0, h6]; rfl) (.nil)))⟩
    ·
     refine qR V <| qM V V V <| qE V V zH V <| qC V V V V ((zQ0 _).trans (show _ = some false by rw [h6]; rfl)) ?_
     refine qM V V V <| qO V <| zG0 V V <| qM V V V <| qS V <| qS V <| qP V V V V <| qO V <| zK0 V zR V V <| qM V V V <| qM V V V <| qE V V zH V <| qC V V V V ((zQ0 _).trans (show _ = some true by rw [hz]; rfl)) ?_
     refine qM V V V <| qM V V V <| qM V V V <| qC V V V V ((k_zero _).trans (show _ = some true by rw [hz])) ?_
     refine qP V V V V <| qO V <| zK0 V zR V V <| qP V V V V <| qN <| zP V (V) <| zQ <| zC <| qR V <| qM V V V <| qM V V V <| qM V V V <| qC V V V V ((k_pos _).trans (show _ = some false by rw [h0])) ?_
     refine qP V V V V <| qM V V V <| qM V V V <| qC V V V V ((six_le _).trans (show _ = some false by rw [h6])) ?_
     refine qP V V V V <| qA V V V <| qN <| zC <| qR V <| qM V V V ?_
     refine zL0 V (zA1 V V V co8 ((zV0 _ 1 _ (upL (uN true k)) (upL_len _) hJ'1).mono ?_))
     rintro _ σq ⟨rfl, rfl⟩
     refine qE V V zH V <| qC V V V V ((zQ0 _).trans (show _ = some false by simp only [uN, h0, h6]; rfl)) ?_
     refine qM V V V <| qO V <| zK0 V zR V V <| qN <| zP V (V) <| zQ <| qR V <| qM V V V <| qO V <| zU V V V V <| qA V V V <| qN ?_
     refine ⟨⟨i + 1, uN true k, σq⟩, by dsimp only; omega, ⟨by dsimp only; omega, _, hJ'1, hJ'm, by omega⟩, rfl, (.keep V (.keep V (.nil))), (.eq V (zY0 hlt hlen) (.eq V (by simp only [uN, h0, h6]; rfl) (.nil)))⟩
    ·
     refine qR V <| qM V V V <| qE V V zH V <| qC V V V V ((zQ0 _).trans (show _ = some false by rw [h6]; rfl)) ?_
     refine qM V V V <| qO V <| zG0 V V <| qM V V V <| qS V <| qS V <| qP V V V V <| qO V <| zK0 V zR V V <| qM V V V <| qM V V V <| qE V V zH V <| qC V V V V ((zQ0 _).trans (show _ = some false by rw [hz]; rfl)) ?_
     refine qM V V V <| qM V V V <| qM V V V <| qC V V V V ((k_zero _).trans (show _ = some false by rw [hz])) ?_
     refine qP V V V V <| qO V <| zK0 V zR V V <| qP V V V V <| qN <| zP V (V) <| zQ <| zC <| qR V <| qM V V V <| qM V V V <| qM V V V <| qC V V V V ((k_pos _).trans (show _ = some true by rw [h0])) ?_
     refine qP V V V V <| qM V V V <| qS V <| qS V <| qP V V V V <| qA V V V <| qN <| zC <| qR V <| qM V V V ?_
     refine zL0 V (zA1 V V V co8 ((zV0 _ 1 _ (upL (uN true k)) (upL_len _) hJ'1).mono ?_))
     rintro _ σq ⟨rfl, rfl⟩
     refine qE V V zH V <| qC V V V V ((zQ0 _).trans (show _ = some true by simp only [uN, h0, h6]; rfl)) ?_
     refine qM V V V <| qO V <| zK0 V zR V V <| qN <| zP V (V) <| zQ <| qR V <| qM V V V <| qO V <| zU V V V V <| qA V V V <| qN ?_
     refine ⟨⟨i + 1, uN true k, σq⟩, by dsimp only; omega, ⟨by dsimp only; omega, _, hJ'1, hJ'm, by omega⟩, rfl, (.keep V (.keep V (.nil))), (.eq V (zY0 hlt hlen) (.eq V (by simp only [uN, h0, h6]; rfl) (.nil)))⟩
    ·
     refine qR V <| qM V V V <| qE V V zH V <| qC V V V V ((zQ0 _).trans (show _ = some false by rw [h6]; rfl)) ?_
     refine qM V V V <| qO V <| zG0 V V <| qM V V V <| qS V <| qS V <| qP V V V V <| qO V <| zK0 V zR V V <| qM V V V <| qM V V V <| qE V V zH V <| qC V V V V ((zQ0 _).trans (show _ = some false by rw [hz]; rfl)) ?_
     refine qM V V V <| qM V V V <| qM V V V <| qC V V V V ((k_zero _).trans (show _ = some false by rw [hz])) ?_
     refine qP V V V V <| qO V <| zK0 V zR V V <| qP V V V V <| qN <| zP V (V) <| zQ <| zC <| qR V <| qM V V V <| qM V V V <| qM V V V <| qC V V V V ((k_pos _).trans (show _ = some true by rw [h0])) ?_
     refine qP V V V V <| qM V V V <| qS V <| qS V <| qP V V V V <| qA V V V <| qN <| zC <| qR V <| qM V V V ?_
     refine zL0 V (zA1 V V V co8 ((zV0 _ 1 _ (upL (uN true k)) (upL_len _) hJ'1).mono ?_))
     rintro _ σq ⟨rfl, rfl⟩
     refine qE V V zH V <| qC V V V V ((zQ0 _).trans (show _ = some true by simp only [uN, h0, h6]; rfl)) ?_
     refine qM V V V <| qO V <| zK0 V zR V V <| qN <| zP V (V) <| zQ <| qR V <| qM V V V <| qO V <| zU V V V V <| qA V V V <| qN ?_
     refine ⟨⟨i + 1, uN true k, σq⟩, by dsimp only; omega, ⟨by dsimp only; omega, _, hJ'1, hJ'm, by omega⟩, rfl, (.keep V (.keep V (.nil))), (.eq V (zY0 hlt hlen) (.eq V (by simp only [uN, h0, h6]; rfl) (.nil)))⟩
  ·
   have hge : i = l.length := by simp at h19; omega
   refine mwp_exit <| zC <| qR V <| qA V V V <| qN <| zZ ?_
   exact zC1 (.inr V) Try.results3 V (.of_eq (V)) (.bool _) Vv
end Go.Proofs.Ytplclefbiimnbaa
namespace Go.MV
open Go Go.RowKit Go.ChangeShapes Go.WideShapes Go.Deep
section
def g0 (W : World) : Gh := { B := W.heap.size, w0 := W, st := fun b => match W.heap[b]? with | some (.cells c _ _) => c.size | _ => 0, bk := fun _ => none, lg := fun _ _ => none }
theorem rel0 (W : World) : Rel (g0 W) [] W := by
 refine ⟨.refl _ _, Nat.le_refl _, fun b hb => ?_, fun _ _ => rfl, fun _ _ _ => rfl, fun _ => none, ⟨fun id o h => (by simp at h), fun i j b h => (by cases h), fun id b h => (by cases h)⟩⟩
 show (match W.heap[b]? with | some (.cells c _ _) => c.size | _ => 0) = 0
 rw [Array.getElem?_eq_none hb]
theorem stab0 {W : World} {ad : Addr} {k : Nat} {v : Value} (h : W.cell? (ad.add k) = some v) (h1 : v.oneCell' = true) : Stab (g0 W) W ad k v := by
 refine ⟨?_, h, h1⟩
 have e := cell_spot h
 rw [e] at h
 show _ < (match W.heap[(ad.add k).block]? with | some (.cells c _ _) => c.size | _ => 0)
 unfold World.cell? at h
 split at h
 ·rename_i c t f hc
  simp only [Option.isSome_none, Bool.false_eq_true, if_false] at h
  simp only at hc
  rw [hc]
  exact (Array.getElem?_eq_some_iff.1 h).1
 ·cases h
def TyFs (T : TypeId → List MV → Prop) : List Field → List MV → Prop
 | [], l => l = []
 | f :: fs, l => ∃ a b, l = a ++ b ∧ T f.type a ∧ TyFs T fs b
def ElF (P : Program) (e : TypeId) (x : MV) : Prop := match P.underlying e with | some (.struct _) => x = .agg x.cells | _ => [x] = x.cells
def TyM (P : Program) : Nat → TypeId → List MV → Prop
 | 0, _, _ => False
 | n + 1, t, l =>
  match P.underlying t with
  | some (.int k) => ∃ v, l = [.int k v] ∧ (Lit.int k v).wf = true
  | some .bool => ∃ b, l = [.bool b]
  | some .string => ∃ s, l = [.str s] ∧ s.size ≤ maxLen
  | some (.slice e) => ∃ xs, l = [.lst none (P.cellsOf e) xs] ∧ ∀ x ∈ xs, x.cells.length = P.cellsOf e ∧ TyM P n e x.cells ∧ ElF P e x
  | some (.struct fs) => TyFs (TyM P n) fs.toList l
  | _ => False
def contig (P : Program) (size : Nat) : List Field → Nat → Bool
 | [], off => Nat.beq off size
 | f :: fs, off => Nat.beq f.offset off && contig P size fs (off + P.cellsOf f.type)
def okTypes (P : Program) (ts : List TypeId) : Bool :=
 ts.all fun t => match P.underlying t with
  | some (.int _) | some .bool | some .string => true
  | some (.slice e) => natMem e ts && (match P.underlying e with | some (.struct _) => true | _ => Nat.beq (P.cellsOf e) 1)
  | some (.struct fs) => fs.toList.all (fun f => natMem f.type ts) && contig P (P.cellsOf t) fs.toList 0
  | _ => false
mutual
def szM : MV → Nat
 | .str s => s.data.toList.length + 1
 | .lst _ _ xs => szMs xs + 1
 | .agg l => szMs l + 1
 | _ => 1
def szMs : List MV → Nat
 | [] => 0
 | x :: r => szM x + szMs r
end
theorem szMs_append : ∀ a b : List MV, szMs (a ++ b) = szMs a + szMs b
 | [], b => by simp [szMs]
 | x :: a, b => by rw [List.cons_append, szMs, szMs, szMs_append a b]; omega
theorem rds_of_fields {P : Program} {W : World} {T : TypeId → List MV → Prop} {cs : List Value} {size : Nat} (hlen : cs.length = size) : ∀ (fs : List Field) (off : Nat) (zs : List Nat), contig P size fs off = true →
  (∀ (i : Nat) (f : Field), fs[i]? = some f → ∃ l, Rds (g0 W) W l ((cs.drop f.offset).take (P.cellsOf f.type)) ∧ T f.type l ∧ l.length = P.cellsOf f.type ∧ (∀ y ∈ l, y.one = true) ∧ szMs l ≤ zs.getD i 0) → ∃ l, Rds (g0 W) W l (cs.drop off) ∧ TyFs T fs l ∧ (∀ y ∈ l, y.one = true) ∧ szMs l ≤ zs.sum
 | [], off, zs, hc, _ => by
  have := Nat.eq_of_beq_eq_true hc
  refine ⟨[], ?_, rfl, (fun y hy => by cases hy), by simp [szMs]⟩
  rw [List.drop_eq_nil_of_le (by omega)]
  exact .nil _ _
 | f :: fs, off, zs, hc, h => by
  simp only [contig, Bool.and_eq_true] at hc
  have ho := Nat.eq_of_beq_eq_true hc.1
  obtain ⟨a, h1, h2, h3, h5, h6⟩ := h 0 f rfl
  obtain ⟨b, k1, k2, k3, k4⟩ := rds_of_fields hlen fs _ zs.tail hc.2 (fun i f' hf' => by
   obtain ⟨l, g1, g2, g3, g4, g5⟩ := h (i + 1) f' (by simpa using hf')
   exact ⟨l, g1, g2, g3, g4, by cases zs <;> simpa using g5⟩)
  refine ⟨a ++ b, ?_, ⟨a, b, rfl, h2, k2⟩, fun y hy => (zT0.1 hy).elim (h5 y) (k3 y), ?_⟩
  ·have e : cs.drop off = (cs.drop off).take (P.cellsOf f.type) ++ cs.drop (off + P.cellsOf f.type) := by
    rw [← List.drop_drop, List.take_append_drop]
   rw [e]
   rw [ho] at h1
   exact h1.append k1
  ·rw [szMs_append]
   cases zs with
   | nil =>
    have h6 : szMs a ≤ 0 := by simpa using h6
    have k4 : szMs b ≤ 0 := by simpa using k4
    simp
    omega
   | cons z zs =>
    have h6 : szMs a ≤ z := by simpa using h6
    have k4 : szMs b ≤ zs.sum := by simpa using k4
    rw [List.sum_cons]
    omega
theorem tyFs_mono {T T' : TypeId → List MV → Prop} (h : ∀ t l, T t l → T' t l) : ∀ (fs : List Field) (l : List MV), TyFs T fs l → TyFs T' fs l
 | [], l, hl => hl
 | f :: fs, l, ⟨a, b, e, h1, h2⟩ => ⟨a, b, e, h _ _ h1, tyFs_mono h fs b h2⟩
theorem tyM_succ {P : Program} : ∀ (n : Nat) (t : TypeId) (l : List MV), TyM P n t l → TyM P (n + 1) t l
 | 0, t, l, h => h.elim
 | n + 1, t, l, h => by
  unfold TyM at h ⊢
  split at h
  ·rename_i k hu; exact h
  ·rename_i hu; exact h
  ·rename_i hu; exact h
  ·rename_i e hu
   obtain ⟨xs, h1, h2⟩ := h
   exact ⟨xs, h1, fun x hx => ⟨(h2 x hx).1, tyM_succ n _ _ (h2 x hx).2.1, (h2 x hx).2.2⟩⟩
  ·rename_i fs hu; exact tyFs_mono (tyM_succ n) _ _ h
  ·exact h.elim
theorem tyM_le {P : Program} {n m : Nat} (h : n ≤ m) {t : TypeId} {l : List MV} (ht : TyM P n t l) : TyM P m t l := by
 obtain ⟨d, rfl⟩ := Nat.le.dest h
 induction d with
 | zero => exact ht
 | succ d ih => exact tyM_succ _ _ _ (ih (by omega))
section
variable {H : Type} {enc : TypeId × Value → H} {P : Program} {W : World} {base : Nat} {spare : Nat → Bool} {held : Bool}
theorem common_bound {α : Type} {p : Nat → α → Prop} (hm : ∀ n m a, n ≤ m → p n a → p m a) : ∀ (l : List α), (∀ a ∈ l, ∃ n, p n a) → ∃ n, ∀ a ∈ l, p n a
 | [], _ => ⟨0, fun a h => by cases h⟩
 | a :: l, h => by
  obtain ⟨n, hn⟩ := h a (zV ..)
  obtain ⟨m, hm'⟩ := common_bound hm l (fun b hb => h b (zC0 _ hb))
  refine ⟨max n m, fun b hb => ?_⟩
  rcases List.mem_cons.1 hb with rfl | hb
  ·exact hm _ _ _ (by omega) hn
  ·exact hm _ _ _ (by omega) (hm' b hb)
mutual
def dBulk : DataW H → Nat
 | .lit (.string b) => b.length + 1
 | .slice es _ => dBulkAll es + 1
 | .agg ps => dBulkAll ps + 1
 | _ => 1
def dBulkAll : List (DataW H) → Nat
 | [] => 0
 | d :: r => dBulk d + dBulkAll r
end
theorem dBulkAll_eq : ∀ l : List (DataW H), dBulkAll l = (l.map dBulk).sum
 | [] => rfl
 | d :: r => by rw [dBulkAll, dBulkAll_eq r]; rfl
theorem reads_gen {ts : List TypeId} (hok : okTypes P ts = true) : ∀ (n : Nat) (x : DataW H × List MemPlace) (fuel : Nat) (t : TypeId) (cs : List Value), SizeOf.sizeOf x.1 ≤ n → t ∈ ts → DataW.trod enc P W base spare held fuel t cs = some x →
  ∃ (l : List MV) (m : Nat), Rds (g0 W) W l cs ∧ TyM P m t l ∧ (∀ y ∈ l, y.one = true) ∧ szMs l + (match P.underlying t with | some (.struct _) => 1 | _ => 0) ≤ dBulk x.1 := by
 intro n
 induction n using Nat.strongRecOn with
 | _ n ih =>
 intro x fuel t cs hx ht h
 have hot : (match P.underlying t with
  | some (.int _) | some .bool | some .string => true
  | some (.slice e) => natMem e ts && (match P.underlying e with | some (.struct _) => true | _ => Nat.beq (P.cellsOf e) 1)
  | some (.struct fs) => fs.toList.all (fun f => natMem f.type ts) && contig P (P.cellsOf t) fs.toList 0
  | _ => false) = true := by
  simp only [okTypes, List.all_eq_true] at hok
  exact hok t ht
 split at hot
 ·rename_i k hu
  obtain ⟨v, rfl, rfl, hwf⟩ := DataW.trod_int hu h
  refine ⟨[.int k v], 1, .cons (.int _ _) (.nil _ _), ?_, by simp [MV.one], by rw [hu]; simp [szMs, szM, dBulk]⟩
  unfold TyM
  rw [hu]
  exact ⟨v, rfl, hwf⟩
 ·rename_i hu
  obtain ⟨b, rfl, rfl⟩ := DataW.trod_bool hu h
  refine ⟨[.bool b], 1, .cons (.bool _) (.nil _ _), ?_, by simp [MV.one], by rw [hu]; simp [szMs, szM, dBulk]⟩
  unfold TyM
  rw [hu]
  exact ⟨b, rfl⟩
 ·rename_i hu
  obtain ⟨s, rfl, rfl, hs⟩ := DataW.trod_string hu h
  refine ⟨[.str s], 1, .cons (.str _) (.nil _ _), ?_, by simp [MV.one], by rw [hu]; simp [szMs, szM, dBulk]⟩
  unfold TyM
  rw [hu]
  exact ⟨s, rfl, hs⟩
 ·rename_i e hu
  simp only [Bool.and_eq_true] at hot
  have he : e ∈ ts := natMem_iff.1 hot.1
  rcases open_slice hu h with ⟨rfl, rfl⟩ | ⟨a, len, cap, m, n', D, Pl, rfl, hb, hl, hm, hmm, rfl, hi⟩
  ·refine ⟨[.lst none (P.cellsOf e) []], 1, .cons (Sub.nil _ _ _ _ .lst0) (.nil _ _), ?_, by simp [MV.one], by rw [hu]; simp [szMs, szM, dBulk]⟩
   unfold TyM
   rw [hu]
   exact ⟨[], rfl, fun x hx => by cases hx⟩
  ·have hlm : len ≤ m := by rw [hmm]; split <;> omega
   have hel : ∀ i, i < len → ∃ (l : List MV) (k : Nat) (us : List Value), us.length = P.cellsOf e ∧ Rds (g0 W) W l us ∧ TyM P k e l ∧ ((∀ y ∈ l, y.one = true) ∧ szMs l + (match P.underlying e with | some (.struct _) => 1 | _ => 0) ≤ dBulk (D i)) ∧ ∀ j, j < P.cellsOf e → W.cell? ((a.add (i * P.cellsOf e)).add j) = us[j]? := by
    intro i hil
    obtain ⟨cs', hc, ht'⟩ := hi i (by omega)
    obtain ⟨_, hlen, hcell⟩ := World.cells?_some hc
    have hsz : SizeOf.sizeOf (D i) < n := by
     have hmem : D i ∈ (List.range len).map D := List.mem_map.2 ⟨i, List.mem_range.2 hil, rfl⟩
     have := List.sizeOf_lt_of_mem hmem
     simp only [DataW.slice.sizeOf_spec] at hx
     omega
    obtain ⟨l, k, h1, h2, h3⟩ := ih _ hsz (D i, Pl i) n' e cs' (Nat.le_refl _) he ht'
    exact ⟨l, k, cs', hlen, h1, h2, h3, hcell⟩
   have hall : ∀ (N : Nat), N ≤ len → ∃ (xs : List MV) (us : List Value) (k : Nat), xs.length = N ∧ us.length = N * P.cellsOf e ∧ Rds (g0 W) W (flat xs) us ∧ (∀ y ∈ flat xs, y.one = true) ∧ (∀ x ∈ xs, x.cells.length = P.cellsOf e ∧ TyM P k e x.cells ∧ ElF P e x) ∧
     (∀ j, j < N * P.cellsOf e → W.cell? (a.add j) = us[j]?) ∧ szMs xs ≤ (((List.range N).map D).map dBulk).sum := by
    intro N
    induction N with
    | zero => exact fun _ => ⟨[], [], 0, rfl, by simp, .nil _ _, by simp [flat], by simp, by simp, by simp [szMs]⟩
    | succ N ihN =>
     intro hN
     obtain ⟨xs, us, k, q1, q2, q3, q4, q5, q6, q7⟩ := ihN (by omega)
     obtain ⟨l, k', us', r1, r2, r3, ⟨r4, r6⟩, r5⟩ := hel N (by omega)
     have hll : l.length = P.cellsOf e := by rw [← r2.1, r1]
     obtain ⟨y, hy1, hy2, hy3⟩ : ∃ y : MV, y.cells = l ∧ ElF P e y ∧ szM y ≤ dBulk (D N) := by
      cases hue : P.underlying e with
      | none => 
       have hk1 : P.cellsOf e = 1 := by have := hot.2; rw [hue] at this; exact Nat.eq_of_beq_eq_true this
       match l, hll.trans hk1 with
       | [y], _ =>
        have := r4 y (zV ..)
        simp only [ElF, hue]
        rw [hue] at r6
        have r7 : szM y ≤ dBulk (D N) := by simpa [szMs] using r6
        refine ⟨y, ?_, ?_, r7⟩ <;> (cases y <;> first | rfl | (cases this; done))
      | some d =>
       cases d with
       | struct fs =>
        rw [hue] at r6
        exact ⟨.agg l, rfl, by simp only [ElF, hue]; rfl, r6⟩
       | _ =>
        have hk1 : P.cellsOf e = 1 := by have := hot.2; rw [hue] at this; exact Nat.eq_of_beq_eq_true this
        match l, hll.trans hk1 with
        | [y], _ =>
         have := r4 y (zV ..)
         simp only [ElF, hue]
         rw [hue] at r6
         have r7 : szM y ≤ dBulk (D N) := by simpa [szMs] using r6
         refine ⟨y, ?_, ?_, r7⟩ <;> (cases y <;> first | rfl | (cases this; done))
     refine ⟨xs ++ [y], us ++ us', max k k', by simp [q1], by rw [zJ, q2, r1, Nat.add_mul]; omega, ?_, ?_, ?_, ?_, by rw [szMs_append, List.range_succ, List.map_append, List.map_append, List.sum_append, show ((([N] : List Nat).map D).map dBulk).sum = dBulk (D N) by simp, show szMs [y] = szM y by simp [szMs]]; omega⟩
     ·rw [flat_append]
      refine q3.append ?_
      simp only [flat, List.flatMap_cons, List.flatMap_nil, List.append_nil, hy1]
      exact r2
     ·intro z hz
      rw [flat_append, zT0] at hz
      rcases hz with hz | hz
      ·exact q4 z hz
      ·simp only [flat, List.flatMap_cons, List.flatMap_nil, List.append_nil, hy1] at hz
       exact r4 z hz
     ·intro x hx
      rcases zT0.1 hx with hx | hx
      ·exact ⟨(q5 x hx).1, tyM_le (by omega) (q5 x hx).2.1, (q5 x hx).2.2⟩
      ·simp at hx
       subst hx
       rw [hy1]
       exact ⟨hll, tyM_le (by omega) r3, hy2⟩
     ·intro j hj
      rw [Nat.add_mul, Nat.one_mul] at hj
      by_cases hjl : j < N * P.cellsOf e
      ·rw [List.getElem?_append_left (by omega)]
       exact q6 j hjl
      ·rw [List.getElem?_append_right (by omega), q2, ← r5 (j - N * P.cellsOf e) (by omega), Go.MV.add_add]
       congr 2
       omega
   obtain ⟨xs, us, k, q1, q2, q3, q4, q5, q6, q7⟩ := hall len (Nat.le_refl _)
   refine ⟨[.lst none (P.cellsOf e) xs], k + 1, .cons (.lst' q1 hl hm (fun x hx => (q5 x hx).1) q3 (fun j u hu => ⟨a, rfl, stab0 ?_ ?_⟩) (fun t ht => by cases ht)) (.nil _ _), ?_, by simp [MV.one], by rw [hu]; simp only [szMs, szM, dBulk, dBulkAll_eq]; omega⟩
   ·have hj : j < us.length := (zB.1 hu).1
    rw [q6 j (by omega)]
    exact hu
   ·have hj : j < us.length := (zB.1 hu).1
    have hjf : j < (flat xs).length := by rw [← q3.1]; exact hj
    exact one_cell (q3.2 j _ u (zA hjf) hu) (q4 _ (List.getElem_mem hjf))
   ·unfold TyM
    rw [hu]
    exact ⟨xs, rfl, q5⟩
 ·rename_i fs hu
  simp only [Bool.and_eq_true, List.all_eq_true] at hot
  obtain ⟨xs, n', rfl, rfl, hlen, hxl, hf⟩ := DataW.trod_struct hu h
  have hfld : ∀ (i : Nat) (f : Field), fs.toList[i]? = some f → ∃ (k : Nat) (l : List MV), Rds (g0 W) W l ((cs.drop f.offset).take (P.cellsOf f.type)) ∧ TyM P k f.type l ∧ (∀ y ∈ l, y.one = true) ∧ szMs l ≤ ((xs.map (·.1)).map dBulk).getD i 0 := by
   intro i f hi
   have hfm := zE hi
   have hi' : fs[i]? = some f := by simpa using hi
   have hilt : i < xs.length := by rw [hxl]; exact (Array.getElem?_eq_some_iff.1 hi').1
   have htr := hf i f hi'
   rw [zA hilt] at htr
   have hsz : SizeOf.sizeOf xs[i].1 < n := by
    have hmem : xs[i].1 ∈ xs.map (·.1) := List.mem_map.2 ⟨xs[i], List.getElem_mem hilt, rfl⟩
    have := List.sizeOf_lt_of_mem hmem
    simp only [DataW.agg.sizeOf_spec] at hx
    omega
   obtain ⟨l, k, h1, h2, h3⟩ := ih _ hsz xs[i] n' f.type _ (Nat.le_refl _) (natMem_iff.1 (hot.1 f hfm)) htr
   refine ⟨k, l, h1, h2, h3.1, ?_⟩
   have : ((xs.map (·.1)).map dBulk).getD i 0 = dBulk xs[i].1 := by simp [hilt]
   rw [this]
   have := h3.2
   omega
  obtain ⟨K, hK⟩ := common_bound (p := fun k (q : Nat × Field) => ∃ l : List MV, Rds (g0 W) W l ((cs.drop q.2.offset).take (P.cellsOf q.2.type)) ∧ TyM P k q.2.type l ∧ (∀ y ∈ l, y.one = true) ∧ szMs l ≤ ((xs.map (·.1)).map dBulk).getD q.1 0) (fun a b f hab ⟨l, h1, h2, h3⟩ => ⟨l, h1, tyM_le hab h2, h3⟩) (fs.toList.zipIdx.map fun p => (p.2, p.1)) (fun q hq => by
   obtain ⟨p, hp, rfl⟩ := List.mem_map.1 hq
   exact hfld p.2 p.1 (List.mem_zipIdx_iff_getElem?.1 hp))
  replace hK : ∀ (i : Nat) (f : Field), fs.toList[i]? = some f → ∃ l : List MV, Rds (g0 W) W l ((cs.drop f.offset).take (P.cellsOf f.type)) ∧ TyM P K f.type l ∧ (∀ y ∈ l, y.one = true) ∧ szMs l ≤ ((xs.map (·.1)).map dBulk).getD i 0 := fun i f hi => hK (i, f) (List.mem_map.2 ⟨(f, i), List.mem_zipIdx_iff_getElem?.2 hi, rfl⟩)
  have hcont := hot.2
  have hlens : ∀ (gs : List Field) (off : Nat), contig P (P.cellsOf t) gs off = true → off ≤ P.cellsOf t ∧ ∀ f ∈ gs, f.offset + P.cellsOf f.type ≤ P.cellsOf t := by
   intro gs
   induction gs with
   | nil => exact fun off hc => ⟨Nat.le_of_eq (Nat.eq_of_beq_eq_true hc), fun f hf => by cases hf⟩
   | cons f gs ihg =>
    intro off hc
    simp only [contig, Bool.and_eq_true] at hc
    have ho := Nat.eq_of_beq_eq_true hc.1
    obtain ⟨h1, h2⟩ := ihg _ hc.2
    refine ⟨by omega, fun f' hf' => ?_⟩
    rcases List.mem_cons.1 hf' with rfl | hf'
    ·omega
    ·exact h2 f' hf'
  obtain ⟨l, h1, h2, h3⟩ := rds_of_fields (P := P) (W := W) (T := TyM P K) hlen fs.toList 0 ((xs.map (·.1)).map dBulk) hcont (fun i f hi => by
   obtain ⟨l, h1, h2, h3⟩ := hK i f hi
   refine ⟨l, h1, h2, ?_, h3⟩
   have := (hlens _ _ hcont).2 f (zE hi)
   rw [← h1.1, List.length_take, List.length_drop, hlen]
   omega)
  refine ⟨l, K + 1, by simpa using h1, ?_, h3.1, by rw [hu]; simp only [dBulk, dBulkAll_eq]; have := h3.2; omega⟩
  unfold TyM
  rw [hu]
  exact h2
 ·cases hot
end
section
variable {H : Type} {enc : TypeId × Value → H} {P : Program} {W : World} {base b0 : Nat} {spare : Nat → Bool} {held : Bool} {r : Reach}
theorem arg_one {ts : List TypeId} (hok : okTypes P ts = true) {t : TypeId} (ht : t ∈ ts) {v : Value} {d : DataW H} {p : List MemPlace} (hv : v.cells = #[v]) (h : DataW.Trod enc P W base spare held t v d p) :
  ∃ (l : List MV) (m : Nat), Rds (g0 W) W l [v] ∧ TyM P m t l := by
 obtain ⟨fuel, hf⟩ := h
 rw [hv] at hf
 obtain ⟨l, m, h1, h2, _⟩ := reads_gen hok _ _ _ _ _ (Nat.le_refl _) ht hf
 exact ⟨l, m, h1, h2⟩
end
theorem law_calls {P : Program} {f : FuncId} {xs : List MV} {W : World} {vs : List Value} (h : MCalls P f xs [] fun v σ' => v = .bool true ∧ σ' = []) (hr : Rds (g0 W) W xs vs) : Calls P f vs.toArray W fun e w' => e = .returned (.bool true) ∧ Below W.heap.size W w' := by
 refine (callsIn_wide.1 (h (g0 W) W vs (rel0 W) hr)).mono ?_
 rintro e w' ⟨v, rfl, x, σ', g', ⟨rfl, rfl⟩, hrel, hrd, hle⟩
 rw [hrd.inv_bool]
 have := hrel.below
 rw [hle.B, hle.w0] at this
 exact ⟨rfl, this⟩
end
end Go.MV
namespace Go.MV
open Go Go.RowKit Go.WideShapes Go.ChangeShapes
section
section
variable {H : Type} {enc : TypeId × Value → H} {P : Program} {W : World} {base b0 : Nat} {spare : Nat → Bool} {held : Bool} {r : Reach} {ts : List TypeId} {t : TypeId} {v : Value} {d : DataW H} {p : List MemPlace}
theorem tyM_intK {k : IntKind} (hu : P.underlying t = some (.int k)) {n : Nat} {l : List MV} (h : TyM P n t l) : ∃ v, l = [.int k v] ∧ (Lit.int k v).wf = true := by
 cases n with
 | zero => exact h.elim
 | succ n => unfold TyM at h; rw [hu] at h; exact h
theorem tyM_slice {e : TypeId} (hu : P.underlying t = some (.slice e)) {n : Nat} {l : List MV} (h : TyM P n t l) : ∃ xs m, m + 1 = n ∧ l = [.lst none (P.cellsOf e) xs] ∧ ∀ x ∈ xs, x.cells.length = P.cellsOf e ∧ TyM P m e x.cells ∧ ElF P e x := by
 cases n with
 | zero => exact h.elim
 | succ n =>
  unfold TyM at h; rw [hu] at h
  obtain ⟨xs, h1, h2⟩ := h
  exact ⟨xs, n, rfl, h1, h2⟩
theorem all_enc {α : Type} {enc : α → MV} {q : α → Prop} : ∀ {xs : List MV}, (∀ x ∈ xs, ∃ a, x = enc a ∧ q a) → ∃ l : List α, xs = l.map enc ∧ ∀ a ∈ l, q a
 | [], _ => ⟨[], rfl, fun a h => by cases h⟩
 | x :: xs, h => by
  obtain ⟨l, rfl, hl⟩ := all_enc (fun y hy => h y (zC0 _ hy))
  obtain ⟨a, rfl, ha⟩ := h x (zV ..)
  refine ⟨a :: l, rfl, fun b hb => ?_⟩
  rcases List.mem_cons.1 hb with rfl | hb
  ·exact ha
  ·exact hl b hb
theorem rd_of_rds {g : Gh} {w : World} {m : MV} {v : Value} (h : Rds g w [m] [v]) : Rd g w m v := h.2 0 _ _ rfl rfl
theorem arg_slice {e : TypeId} {α : Type} {en : α → MV} {q : α → Prop} (hok : okTypes P ts = true) (ht : t ∈ ts) (hu : P.underlying t = some (.slice e)) (hel : ∀ m x, x.cells.length = P.cellsOf e → TyM P m e x.cells → ElF P e x → ∃ a, x = en a ∧ q a)
  (hv : Value.okWide P W r b0 t v) (h : DataW.Trod enc P W base spare held t v d p) : ∃ l : List α, Rd (g0 W) W (.lst none (P.cellsOf e) (l.map en)) v ∧ (∀ a ∈ l, q a) ∧ l.length ≤ maxLen := by
 obtain ⟨a, n, c, rfl⟩ := okWide_slice hu hv
 obtain ⟨l, m, h1, h2⟩ := arg_one hok ht rfl h
 obtain ⟨xs, m, _, rfl, hx⟩ := tyM_slice hu h2
 obtain ⟨l, rfl, hl⟩ := all_enc (fun x hx' => hel m x (hx x hx').1 (hx x hx').2.1 (hx x hx').2.2)
 refine ⟨l, rd_of_rds h1, hl, ?_⟩
 obtain ⟨_, _, _, _, h3, h4, _⟩ := (rd_of_rds h1).inv_lst
 have := Nat.le_trans h3 h4
 rwa [zI] at this
theorem el_int {k : IntKind} (hu : P.underlying t = some (.int k)) (m : Nat) (x : MV) (h : TyM P m t x.cells) (he : ElF P t x) : ∃ a, x = .int k a ∧ (Lit.int k a).wf = true := by
 obtain ⟨n, hn', hw⟩ := tyM_intK hu h
 simp only [ElF, hu] at he
 rw [hn'] at he
 injection he with he
 exact ⟨n, he, hw⟩
theorem wf_u8 {n : Int} (h : (Lit.int .u8 n).wf = true) : ∃ m : Nat, n = (m : Int) ∧ m ≤ 255 := by
 simp [Lit.wf, IntKind.min, IntKind.max, IntKind.signed, IntKind.bits] at h
 exact ⟨n.toNat, by omega, by omega⟩
end
end
end Go.MV
namespace Go.Proofs.Ytplclefbiimnbaa
open Go Go.MV
theorem cells_u8 : Try.prog.cellsOf 5 = 1 := by kernel_rfl
theorem el_u8 (m : Nat) (x : MV) (_ : x.cells.length = Try.prog.cellsOf 5) (h : TyM Try.prog m 5 x.cells) (he : ElF Try.prog 5 x) : ∃ a : UInt8, x = encY a ∧ True := by
 obtain ⟨a, h1, h2⟩ := el_int Try.underlying5 m x h he
 obtain ⟨n, rfl, hn⟩ := wf_u8 h2
 refine ⟨UInt8.ofNat n, ?_, trivial⟩
 have : (UInt8.ofNat n).toNat = n := by simp [UInt8.toNat_ofNat']; omega
 rw [h1, encY, this]
theorem arg_u8s {ts : List TypeId} (hok : okTypes Try.prog ts = true) (ht : 22 ∈ ts) {H : Type} {enc : TypeId × Value → H} {W : World} {base b0 : Nat} {spare : Nat → Bool} {held : Bool} {r : Reach} {v : Value} {d : DataW H} {p : List MemPlace} (hv : Value.okWide Try.prog W r b0 22 v) (h : DataW.Trod enc Try.prog W base spare held 22 v d p) :
  ∃ c : List UInt8, Rd (g0 W) W (.lst none 1 (c.map encY)) v := by
 obtain ⟨c, h1, h2, h3⟩ := arg_slice (en := encY) hok ht Try.underlying22 (q := fun _ => True) el_u8 hv h
 rw [cells_u8] at h1
 exact ⟨c, h1⟩
end Go.Proofs.Ytplclefbiimnbaa
