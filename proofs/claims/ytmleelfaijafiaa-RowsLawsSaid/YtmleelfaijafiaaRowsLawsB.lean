/-
  Texts on which the proof of RowsLaws leans: part 2.
-/
import Derived.Test.YtmleelfaijafiaaRowsLawsA
import Derived.Laws.StructEq
import Derived.WalkKit
import Derived.Deep.LoopGhost
import Derived.Ground.NamesProg
import Derived.Ground.Names2Prog
import Derived.Shelf.Lay
import Derived.Shelf.Slices.In.Clone
import Derived.Shelf.Slices.In.CompactS
import Derived.Shelf.Slices.In.SortNone
import Derived.Sort.OwnSorted
import Derived.Sort.Grow
import Derived.Sort.EveryDepth
import Derived.Lib.OwnBridge
import Derived.OwnWalkIn
import Derived.TacticsInMore
import Derived.RegionIn
import Derived.LoopNIn
import Derived.LoopIn
import Derived.Sort.LoopGhostIn
import Derived.Sort.CutIn
import Derived.Sort.QuietIn
import Derived.Shelf.RegionOpen
import Derived.Shelf.AbstractIn
import Derived.Deep.Slices
import Derived.ChangeSame
import Derived.ProofKit
import Derived.OpenShut
import Derived.ChangeOld
import Derived.SizedLaws
import Derived.Carry
section
set_option linter.unusedVariables false
set_option linter.unusedSimpArgs false
namespace Go.MV
open Go Go.RowKit
section
variable {P : Program} {rd : Option Nat} {o : Oper} {env : Env} {σ : MS} {K : MV → MS → Prop}
theorem op_shr {t t' : TypeId} {x y : Operand} {k k' : IntKind} {m n r : Int} (ho : o.op = .binOp .shr t x y t') (hx : evo env x = some (.int k m)) (hy : evo env y = some (.int k' n)) (hn : 0 ≤ n) (hr : m.fdiv (2 ^ min n.toNat k.bits) = r) (h : K (.int k r) σ) : OpWp P rd o env σ K := by
  refine op_bin ho hx hy (fun _ _ _ h => h.inv_int) (fun _ _ _ h => h.inv_int) (vz := .int k r) (fun w => ?_) rfl h
  subst hr
  have : ¬ n < 0 := by omega
  simp [eqGuard, binOp, Op.shift, this]
theorem op_convInt {t t' : TypeId} {x : Operand} {k k' : IntKind} {n r : Int} {d : TypeDesc} (ho : o.op = .convert t t' x) (hs : P.underlying t = some d) (ht : P.underlying t' = some (.int k)) (hx : evo env x = some (.int k' n)) (hr : k.wrap n = r) (h : K (.int k r) σ) : OpWp P rd o env σ K := by
  subst hr
  refine OpWp.of_run (by simp [ho]) fun g w a hr hop => ⟨.int k (k.wrap n), w, ?_, .same h hr (.int _ _)⟩
  have hv := (hop x (by simp [ho, Op.operands]) _ hx).inv_int
  simp [execOp, ho, convert, run_underlying hs, run_underlying ht, hv, Conv.intToInt]
theorem wadd {a b c : Nat} (h : a + b = c) (hc : c < 9223372036854775808) : intArith .add .i64 (a : Int) (b : Int) = some (c : Int) := by
  simp only [intArith]
  rw [wrap_i64 (by omega)]
  congr 1
  omega
theorem wsub {a b c : Nat} (h : b + c = a) (hc : a < 9223372036854775808) : intArith .sub .i64 (a : Int) (b : Int) = some (c : Int) := by
  simp only [intArith]
  rw [wrap_i64 (by omega)]
  congr 1
  omega
end
end Go.MV
end
section
set_option linter.unusedVariables false
set_option linter.unusedSimpArgs false
namespace Go.MV
open Go Go.RowKit
end Go.MV
end
section
set_option linter.unusedVariables false
set_option linter.unusedSimpArgs false
namespace Go.MV
open Go Go.RowKit
section
variable {P : Program} {rd : Option Nat} {N n : Nat} {Q : Exit → Env → MS → Prop} {env : Env} {S L : MS} {c : Code}
theorem EnvSub.app {env A B : Env} (h : EnvSub env A) (k : EnvSub env B) : EnvSub env (A ++ B) := by
  induction h with
  | nil => exact k
  | cons h1 h2 _ ih => exact .cons h1 h2 ih
theorem EnvTo.app {n : Nat} {env E0 A B : Env} (h : EnvTo n env E0 A) (k : EnvTo n env E0 B) : EnvTo n env E0 (A ++ B) := by
  induction h with
  | nil => exact k
  | old h1 h2 _ ih => exact .old h1 h2 ih
  | new h1 h2 h3 _ ih => exact .new h1 h2 h3 ih
theorem mwp_loopK {α : Type} {L0 : MS} (K : Env) (E : α → Env) (L : α → MS) (I : α → Prop) (m : α → Nat) (x₀ : α) (hK : EnvSub env K) (hE : EnvSub env (E x₀)) (h₀ : I x₀) (hL : L0 = L x₀)
    (round : ∀ x, I x → mwp P rd N n c (ThenM (fun env' σ' => ∃ y, m y < m x ∧ I y ∧ σ' = S ++ L y ∧ EnvSub env' K ∧ EnvSub env' (E y)) Q) (K ++ E x) (S ++ L x)) : mwp P rd N n (.loop c) Q env (S ++ L0) := by
  refine mwp_loop0 (fun x => K ++ E x) L I m x₀ h₀ hL (hK.app hE) fun x hx => mwp_mono (round x hx) fun e env' σ' h => ?_
  cases e with
  | normal =>
    obtain ⟨y, h1, h2, h3, h4, h5⟩ := h
    exact ⟨y, h1, h2, h3, h4.app h5⟩
  | _ => exact h
end
theorem wOps_case {P : Program} {rd : Option Nat} {ops : Array Oper} {Q : Env → MS → Prop} {rest : List Oper} {t : Nat} {e : Bool} {env : Env} {σ : MS} (hT : e = true → wOps P rd ops Q rest ((t, .bool true) :: env) σ) (hF : e = false → wOps P rd ops Q rest ((t, .bool false) :: env) σ) : wOps P rd ops Q rest (putd (some t) (.bool e) env) σ := by
  cases e
  · exact hF rfl
  · exact hT rfl
theorem dOps_case {P : Program} {rd : Option Nat} {ops : Array Oper} {eff : List Nat} {Ss : List MS} {Q : Env → Prop} {rest : List Oper} {i t : Nat} {e : Bool} {env : Env} (hT : e = true → dOps P rd ops eff Ss Q rest i ((t, .bool true) :: env)) (hF : e = false → dOps P rd ops eff Ss Q rest i ((t, .bool false) :: env)) : dOps P rd ops eff Ss Q rest i (putd (some t) (.bool e) env) := by
  cases e
  · exact hF rfl
  · exact hT rfl
theorem cl_flat {α : Type} {en : α → MV} {n : Nat} {l : List α} (h : ∀ a ∈ l, Cl n (en a)) (hc : ∀ a, en a = .agg (en a).cells ∨ [en a] = (en a).cells) : ∀ x ∈ flat (l.map en), Cl n x := by
  intro x hx
  obtain ⟨y, hy, hx⟩ := List.mem_flatMap.1 hx
  obtain ⟨a, ha, rfl⟩ := List.mem_map.1 hy
  rcases hc a with e | e
  · have := h a ha
    rw [e] at this
    cases this with
    | agg _ h => exact h x hx
  · rw [← e] at hx
    simp at hx
    subst hx
    exact h a ha
theorem cl_lst {α : Type} {en : α → MV} {n sz : Nat} {l : List α} (h : ∀ a, Cl n (en a)) (hc : ∀ a, en a = .agg (en a).cells ∨ [en a] = (en a).cells) : Cl n (.lst none sz (l.map en)) := .lst none sz _ (fun t ht => by cases ht) (cl_flat (fun a _ => h a) hc)
theorem cl_lstT {α : Type} {en : α → MV} {n sz t : Nat} {l : List α} (ht : t < n) (h : ∀ a, Cl n (en a)) (hc : ∀ a, en a = .agg (en a).cells ∨ [en a] = (en a).cells) : Cl n (.lst (some t) sz (l.map en)) := .lst _ sz _ (fun s hs => by injection hs with hs; omega) (cl_flat (fun a _ => h a) hc)
theorem get_map {α : Type} {en : α → MV} {l : List α} {i : Nat} {a : α} (h : l[i]? = some a) : (l.map en)[i]? = some (en a) := by rw [List.getElem?_map, h]; rfl
end Go.MV
end
section
set_option linter.unusedVariables false
set_option linter.unusedSimpArgs false
namespace Go.MV
open Go Go.RowKit
abbrev Tk := Int × Int
def encT (t : Tk) : MV := .agg [.int .i64 t.1, .int .u64 t.2]
theorem encT_agg (t : Tk) : encT t = .agg (encT t).cells ∨ [encT t] = (encT t).cells := .inl rfl
theorem cl_encT (n : Nat) (t : Tk) : Cl n (encT t) := .agg _ fun x hx => by
  simp only [List.mem_cons, List.not_mem_nil, or_false] at hx
  rcases hx with rfl | rfl
  · exact .int _ _
  · exact .int _ _
theorem cl_clock (n : Nat) (c : List Tk) : Cl n (.lst none 2 (c.map encT)) := cl_lst (cl_encT n) encT_agg
def ofF : List Tk → Int → Int
  | [], _ => 0
  | t :: c, w => if t.1 = w then t.2 else ofF c w
def Up (c : List Tk) : Prop := c.Pairwise fun x y => x.1 < y.1
theorem of_mem {c : List Tk} (hs : Up c) {t : Tk} (h : t ∈ c) : ofF c t.1 = t.2 := by
  induction c with
  | nil => cases h
  | cons s c ih =>
    have hs' := List.pairwise_cons.1 hs
    rcases List.mem_cons.1 h with rfl | h
    · rw [ofF, if_pos rfl]
    · have := hs'.1 t h
      rw [ofF, if_neg (by omega)]
      exact ih hs'.2 h
end Go.MV
end
section
set_option linter.unusedVariables false
set_option linter.unusedSimpArgs false
namespace Go.MV
open Go Go.RowKit
section
variable {P : Program} {rd : Option Nat} {o : Oper} {env : Env} {σ S L : MS} {K : MV → MS → Prop}
end
section
variable {P : Program} {fn : Func} {S S' L : MS} {R : MV → MS → Prop} {env : Env}
theorem ret_tmpS {e : Exit} {t : Nat} {x y : MV} (he : e = .normal ∨ e = .ret) (hres : fn.results = #[.tmp t]) (hx : get env t = some x) (hs : Sub x y) (hc : Cl S'.length y) (hl : S.length ≤ S'.length) (hS : ClS S') (hR : R y S') : BodyQ P fn S R e env (S' ++ L) := by
  refine ⟨he, [x], y, S', L, ?_, hs, hc, rfl, hl, .inr hS, hR⟩
  rw [hres]
  exact .tmp hx .nil
theorem ret_noneS {e : Exit} (he : e = .normal ∨ e = .ret) (hres : fn.results = #[]) (hl : S.length ≤ S'.length) (hS : ClS S') (hR : R (.tup []) S') : BodyQ P fn S R e env (S' ++ L) := by
  refine ⟨he, [], .tup [], S', L, ?_, .refl _, .tup _ (by simp), rfl, hl, .inr hS, hR⟩
  rw [hres]
  exact .nil
end
theorem ClS.set {S : MS} (h : ClS S) {id : Nat} {o : MObj} (ho : o.cl S.length) : ClS (S.set id o) := by
  intro i p hp
  rw [List.length_set]
  rw [List.getElem?_set] at hp
  split at hp
  · split at hp
    · injection hp with hp
      subst hp
      exact ho
    · cases hp
  · exact h i p hp
theorem get_app {S L : MS} {id : Nat} {o : MObj} (h : S[id]? = some o) : (S ++ L)[id]? = some o := by
  rw [List.getElem?_append_left (List.getElem?_eq_some_iff.1 h).1]
  exact h
theorem set_app {S L : MS} {id : Nat} {o p : MObj} (h : S[id]? = some o) : (S ++ L).set id p = S.set id p ++ L := List.set_append_left _ _ (List.getElem?_eq_some_iff.1 h).1
end Go.MV
end
section
set_option linter.unusedVariables false
set_option linter.unusedSimpArgs false
namespace Go.MV
open Go Go.RowKit
def YStep (P : Program) (id : Nat) (xs : List MV) (S : MS) (b : Bool) (S' : MS) : Prop :=
  ∀ (L : MS) (rd : Option Nat) (o : Oper) (env : Env) (f : Operand) (args : Array Operand) (ts : Array TypeId), o.op = .call { callee := .value f, args := args, argTypes := ts } → evo env f = some (.yld id) → evos env args.toList = some xs →
    OpWp P rd o env (S ++ L) (fun v σ' => v = .bool b ∧ σ' = S' ++ L)
def IterOk (P : Program) (k : FuncId) (first caps : List MV) (ys : List (List MV)) (ok : MS → Prop) : Prop :=
  ∀ (id : Nat) (T : Nat → MS) (m : Nat), (∀ j, ok (T j)) → (∀ j y, j < m → ys[j]? = some y → YStep P id y (T j) true (T (j + 1))) →
    (m = ys.length → MCalls P k (first ++ [.yld id] ++ caps) (T 0) fun _ σ' => σ' = T m) ∧
    (∀ y, ys[m]? = some y → YStep P id y (T m) false (T (m + 1)) → MCalls P k (first ++ [.yld id] ++ caps) (T 0) fun _ σ' => σ' = T (m + 1))
theorem get_mid {A B : MS} {o : MObj} : (A ++ o :: B)[A.length]? = some o := by
  rw [List.getElem?_append_right (Nat.le_refl _), Nat.sub_self]; rfl
theorem set_mid {A B : MS} {o p : MObj} : (A ++ o :: B).set A.length p = A ++ p :: B := by
  rw [List.set_append_right _ _ (Nat.le_refl _), Nat.sub_self]; rfl
section
variable {P : Program} {rd : Option Nat} {N n : Nat} {Q : Exit → Env → MS → Prop} {env : Env} {S : MS}
end
end Go.MV
end
section
set_option linter.unusedVariables false
set_option linter.unusedSimpArgs false
namespace Go.MV
open Go Go.RowKit
theorem Rel.recell {g : Gh} {σ : MS} {w : World} (h : Rel g σ w) {id : Nat} {l l' : List MV} (hσ : σ[id]? = some (.cells l)) (hl : ∀ us, Rds g w l us → Rds g w l' us) : Rel g (σ.set id (.cells l')) w := by
  have hlt := (List.getElem?_eq_some_iff.1 hσ).1
  refine ⟨h.below, h.base, h.fresh, fun i hi => h.bkn i (by simpa using hi), fun t n ht => h.lgn t n (by simpa using ht), ?_⟩
  obtain ⟨own, ho⟩ := h.ex
  refine ⟨own, ⟨fun i o hi => ?_, ho.inj, fun i b hi => by have := ho.lt i b hi; exact ⟨by simpa using this.1, this.2⟩⟩⟩
  rw [List.getElem?_set] at hi
  split at hi
  · rename_i e
    subst e
    injection hi with hi
    subst hi
    obtain ⟨b, us, ty, h1, h2, h3, h4, h5⟩ := ho.obj _ _ hσ
    exact ⟨b, us, ty, h1, h2, h3, h4, hl us h5⟩
  · exact ho.obj i o hi
section
variable {P : Program} {rd : Option Nat} {N n : Nat} {c : Code} {Q : Exit → Env → MS → Prop} {env : Env} {S L : MS}
theorem mwp_cellrow {L' : MS} (k ty sz : Nat) {m : Nat} (hk : L[k]? = some (.cells [.lst0])) (hN : N ≤ S.length) (hm : L.length = m) (hL : L.set k (.cells [.lst (some (S.length + m)) sz []]) ++ [.row ty sz 0] = L') (h : mwp P rd N n c Q env (S ++ L')) : mwp P rd N n c Q env (S ++ L) := by
  subst hm hL
  refine mwp_ghost (fun g w tmps hr he => ?_) h
  obtain ⟨r1, l1, d1⟩ := tok_new hr ty sz
  have hlen : (S ++ L).length = S.length + L.length := List.length_append
  refine ⟨_, ?_, he.mono l1, l1.toN N, fun F hF => hF.mono (l1.toN N)⟩
  have hlt := (List.getElem?_eq_some_iff.1 hk).1
  have e : S ++ (L.set k (.cells [.lst (some (S.length + L.length)) sz []]) ++ [.row ty sz 0]) = ((S ++ L) ++ [MObj.row ty sz 0]).set (S.length + k) (.cells [.lst (some (S.length + L.length)) sz []]) := by
    rw [List.append_assoc, set_own, List.set_append_left _ _ hlt]
  rw [e]
  refine r1.recell (l := [.lst0]) (by rw [List.append_assoc, getElem?_own, List.getElem?_append_left hlt]; exact hk) fun us hus => ?_
  obtain ⟨u, us', rfl, h1, h2⟩ := hus.uncons
  refine .cons ?_ ?_
  · rw [h1.inv_lst0, ← hlen]; exact d1
  · cases us' with
    | nil => exact .nil _ _
    | cons _ _ => have := h2.1; simp at this
theorem YStep.at0 {id : Nat} {xs : List MV} {S S' : MS} {b : Bool} (h : YStep P id xs S b S') {o : Oper} {f : Operand} {args : Array Operand} {ts : Array TypeId} (ho : o.op = .call { callee := .value f, args := args, argTypes := ts }) (hf : evo env f = some (.yld id)) (hx : evos env args.toList = some xs) : OpWp P rd o env S (fun v σ' => v = .bool b ∧ σ' = S') := by
  have := h [] rd o env f args ts ho hf hx
  simpa using this
end
section
variable {P : Program} {fn : Func} {S S' L : MS} {R : MV → MS → Prop} {env : Env}
theorem ret_noneT {e : Exit} (he : e = .normal ∨ e = .ret) (hres : fn.results = #[]) (hl : S.length ≤ S'.length) (hS : ClS S') (hR : R (.tup []) S') : BodyQ P fn S R e env S' := by
  have := ret_noneS (P := P) (env := env) (L := []) he hres hl hS hR
  rwa [List.append_nil] at this
theorem ret_tmpT {e : Exit} {t : Nat} {x y : MV} (he : e = .normal ∨ e = .ret) (hres : fn.results = #[.tmp t]) (hx : get env t = some x) (hs : Sub x y) (hc : Cl S'.length y) (hl : S.length ≤ S'.length) (hS : ClS S') (hR : R y S') : BodyQ P fn S R e env S' := by
  have := ret_tmpS (P := P) (env := env) (L := []) he hres hx hs hc hl hS hR
  rwa [List.append_nil] at this
end
section
variable {P : Program} {rd : Option Nat} {o : Oper} {env : Env} {S L L' R : MS} {K : MV → MS → Prop}
theorem get_mid_ {k : Nat} {ob : MObj} (h : L[k]? = some ob) : ((S ++ L) ++ R)[S.length + k]? = some ob := by
  rw [List.append_assoc, getElem?_own]
  exact get_app h
theorem set_mid_ {k : Nat} {ob p : MObj} (h : L[k]? = some ob) : ((S ++ L) ++ R).set (S.length + k) p = (S ++ L.set k p) ++ R := by
  rw [List.append_assoc, set_own, set_app h, List.append_assoc]
theorem op_load_mid {t : TypeId} {x : Operand} {k off : Nat} {l : List MV} {ta : Option Nat} {m : MV} (ho : o.op = .load t x) (hx : evo env x = some (.ref (S.length + k) off)) (hσ : L[k]? = some (.cells l)) (ht : tyAgg P t = some ta) (hm : loadMV ta l off = some m) (h : K m ((S ++ L) ++ R)) : OpWp P rd o env ((S ++ L) ++ R) K :=
  op_load_ref ho hx (get_mid_ hσ) ht hm h
theorem op_store_mid {t : TypeId} {x y : Operand} {i off : Nat} {l : List MV} {m : MV} {k : Nat} (ho : o.op = .store t x y) (hx : evo env x = some (.ref (S.length + i) off)) (hy : evo env y = some m) (hσ : L[i]? = some (.cells l)) (hk : szOf P t = some k) (hm : m.cells.length = k)
    (h1 : m.cells.all MV.one = true) (hle : off + k ≤ l.length) (hL : L.set i (.cells (setMany l off m.cells)) = L') (h : K (.tup []) ((S ++ L') ++ R)) : OpWp P rd o env ((S ++ L) ++ R) K :=
  op_store ho hx hy (get_mid_ hσ) hk hm h1 hle (by rw [set_mid_ hσ, hL]; exact h)
theorem op_append_mid {t e sz bytes k n : Nat} {x y : Operand} {tok : Option Nat} {xs ys : List MV} (ho : o.op = .call { callee := .builtin .append, args := #[x, y], argTypes := #[t, t] }) (hu : P.underlying t = some (.slice e)) (he : elemOk P e sz bytes = true)
    (hx : evo env x = some (.lst (some (S.length + k)) sz xs)) (hy : evo env y = some (.lst tok sz ys)) (hσ : L[k]? = some (.row e sz n)) (hn : xs.length = n) (hb : (n + ys.length) * bytes ≤ 140737488355328) (hml : n + ys.length ≤ 4611686018427387904)
    (hL : L.set k (.row e sz (n + ys.length)) = L') (hK : K (.lst (some (S.length + k)) sz (xs ++ ys)) ((S ++ L') ++ R)) : OpWp P rd o env ((S ++ L) ++ R) K :=
  op_append ho hu he hx hy (get_mid_ hσ) hn hb hml (by rw [set_mid_ hσ, hL]; exact hK)
end
end Go.MV
end
section
set_option linter.unusedVariables false
set_option linter.unusedSimpArgs false
namespace Go.MV
open Go Go.RowKit
def encX (s : Bs) : MV := .str (bs s)
theorem cl_encX (n : Nat) (s : Bs) : Cl n (encX s) := .str _
theorem encX_one (s : Bs) : encX s = .agg (encX s).cells ∨ [encX s] = (encX s).cells := .inr rfl
theorem cl_texts (n : Nat) (l : List Bs) : Cl n (.lst none 1 (l.map encX)) := cl_lst (cl_encX n) encX_one
def encC (c : List Tk) : MV := .lst none 2 (c.map encT)
theorem cl_encC (n : Nat) (c : List Tk) : Cl n (encC c) := cl_clock n c
theorem encC_one (c : List Tk) : encC c = .agg (encC c).cells ∨ [encC c] = (encC c).cells := .inr rfl
theorem cl_clocks (n : Nat) (l : List (List Tk)) : Cl n (.lst none 1 (l.map encC)) := cl_lst (cl_encC n) encC_one
inductive Val where
  | mk (n m : Int) (s : List Bs) (c : List (List Tk)) (v : List Val)
  deriving Inhabited
noncomputable instance : DecidableEq Val := fun a b => Classical.propDecidable (a = b)
def risesF : List Bs → Bool
  | [] => true
  | [_] => true
  | a :: b :: l => Op.bytesLess a b && risesF (b :: l)
end Go.MV
end
section
set_option linter.unusedVariables false
set_option linter.unusedSimpArgs false
namespace Go.MV
open Go Go.RowKit
def exCode : Exit → Code
  | .ret => .ret
  | .exit x => .exit x
  | _ => .skip
theorem first_bad (p : Nat → Bool) : ∀ n : Nat, (∀ j, j < n → p j = true) ∨ ∃ m, m < n ∧ p m = false ∧ ∀ j, j < m → p j = true
  | 0 => .inl fun j h => by omega
  | n + 1 => by
    rcases first_bad p n with hall | ⟨m, h1, h2, h3⟩
    · cases h : p n with
      | false => exact .inr ⟨n, by omega, h, hall⟩
      | true =>
        refine .inl fun j hj => ?_
        rcases Nat.lt_or_ge j n with h' | h'
        · exact hall j h'
        · have : j = n := by omega
          subst this
          exact h
    · exact .inr ⟨m, by omega, h2, h3⟩
theorem iterOk_of {P : Program} {k : FuncId} {first caps : List MV} {ys : List (List MV)} {ok : MS → Prop} (h : ∀ (id : Nat) (T : Nat → MS) (m : Nat), (∀ j, ok (T j)) → m ≤ ys.length → (∀ j y, j < m → ys[j]? = some y → YStep P id y (T j) true (T (j + 1))) → (∀ j y, j = m → ys[j]? = some y → YStep P id y (T j) false (T (j + 1))) →
    MCalls P k (first ++ [.yld id] ++ caps) (T 0) fun v σ' => v = .tup [] ∧ σ' = T (if m < ys.length then m + 1 else m)) : IterOk P k first caps ys ok := by
  intro id T m hok hyt
  refine ⟨fun hm => ?_, fun y hy hyf => ?_⟩
  · refine (h id T m hok (by omega) hyt (fun j y hj hy => ?_)).mono ?_
    · have := (List.getElem?_eq_some_iff.1 hy).1; omega
    · rintro v σ' ⟨_, h⟩
      rw [h, if_neg (by omega)]
  · have hm := (List.getElem?_eq_some_iff.1 hy).1
    refine (h id T m hok (by omega) hyt (fun j z hj hz => ?_)).mono ?_
    · subst hj
      rw [hy] at hz
      injection hz with hz
      subst hz
      exact hyf
    · rintro v σ' ⟨_, h⟩
      rw [h, if_pos hm]
section
variable {P : Program} {rd : Option Nat} {N n : Nat} {Q : Exit → Env → MS → Prop} {env : Env} {S : MS}
theorem evos_len {env : Env} : ∀ (l : List Operand) (ys : List MV), evos env l = some ys → l.length = ys.length := by
  intro l
  induction l with
  | nil => intro ys h; injection h with h; subst h; rfl
  | cons x l ih =>
    intro ys h
    simp only [evos] at h
    cases hx : evo env x with
    | none => rw [hx] at h; cases h
    | some m =>
      rw [hx] at h
      cases hl : evos env l with
      | none => simp only [hl] at h; cases h
      | some ms =>
        simp only [hl] at h
        injection h with h
        subst h
        simp [ih _ hl]
theorem cls_swap {A B B' C0 C' : MS} {s s' : LoopState} {q q' : Option Code} {ls : LS} {l : Nat} (h1 : B.length = l) (h2 : B'.length = l) (hB : ∀ o, o ∈ B' → ∀ n, (A ++ C0).length ≤ n → o.cl n) (hm : C0.length = l) (h : ClS ((A ++ B) ++ .loop s q ls :: C')) : ClS ((A ++ B') ++ .loop s' q' ls :: C') := by
  have hle : ((A ++ B') ++ MObj.loop s' q' ls :: C').length = ((A ++ B) ++ MObj.loop s q ls :: C').length := by simp [h1, h2]
  intro id o hid
  rw [hle]
  by_cases c1 : id < A.length
  · refine h id o ?_
    rw [List.append_assoc, List.getElem?_append_left c1] at hid ⊢
    exact hid
  · by_cases c2 : id < (A ++ B').length
    · rw [List.getElem?_append_left c2, List.getElem?_append_right (by omega)] at hid
      refine hB o (List.mem_of_getElem? hid) _ ?_
      simp only [List.length_append, List.length_cons]
      omega
    · by_cases c3 : id = (A ++ B').length
      · subst c3
        rw [get_mid] at hid
        injection hid with hid
        subst hid
        have := h (A ++ B).length (.loop s q ls) get_mid
        exact this
      · refine h id o ?_
        have hl : (A ++ B).length = (A ++ B').length := by simp [h1, h2]
        rw [List.getElem?_append_right (by omega)] at hid ⊢
        rw [hl]
        obtain ⟨d, hd⟩ : ∃ d, id - (A ++ B').length = d + 1 := ⟨id - (A ++ B').length - 1, by omega⟩
        rw [hd] at hid ⊢
        simpa using hid
theorem cls_loop {A : MS} {s : LoopState} {q : Option Code} {ps : Array Tmp} {assign body : Code} {env : Env} {n : Nat} (h : ClS A) (he : ∀ t x, get env t = some x → Cl A.length x) : ClS (A ++ [.loop s q ⟨ps, assign, body, env, n⟩]) := by
  intro id o hid
  by_cases c : id < A.length
  · rw [List.getElem?_append_left c] at hid
    have := h id o hid
    cases o with
    | cells l => exact fun x hx => (this x hx).mono (by simp)
    | loop s p ls => exact fun t x hx => (this t x hx).mono (by simp)
    | row _ _ _ => exact trivial
    | mp es => exact fun e he => (this e he).mono (by simp)
    | pin _ _ => exact trivial
    | tcells _ l => exact fun x hx => (this x hx).mono (by simp)
    | orow _ _ _ l => exact fun x hx => (this x hx).mono (by simp)
    | fixed _ _ => exact trivial
    | gone => exact trivial
  · rw [List.getElem?_append_right (by omega)] at hid
    obtain ⟨d, hd⟩ : ∃ d, id - A.length = d := ⟨_, rfl⟩
    rw [hd] at hid
    cases d with
    | zero =>
      simp at hid
      subst hid
      exact fun t x hx => (he t x hx).mono (by simp)
    | succ d => simp at hid
theorem IterOk.weak {P : Program} {k : FuncId} {first caps : List MV} {ys : List (List MV)} {ok ok' : MS → Prop} (h : IterOk P k first caps ys ok) (hw : ∀ σ, ok' σ → ok σ) : IterOk P k first caps ys ok' :=
  fun id T m hok hyt => h id T m (fun j => hw _ (hok j)) hyt
theorem mwp_rangeB {f : Operand} {ps : Array Tmp} {assign body : Code} {k : FuncId} {first caps : List MV} {ys : List (List MV)} {ok : MS → Prop} {L0 : MS} (ex : Exit) (hex : ex = .ret ∨ ∃ x, ex = .exit x) (p : Nat → Bool) (L Ls : Nat → MS) (hlen : ∀ j, (L j).length = (L 0).length) (hlens : ∀ j, (Ls j).length = (L 0).length) (hL0 : L0 = L 0)
    (hcl : ∀ j o, o ∈ L j → ∀ n, (S ++ L 0).length ≤ n → o.cl n) (hcls : ∀ j o, o ∈ Ls j → ∀ n, (S ++ L 0).length ≤ n → o.cl n)
    (hf : evo env f = some (.fn (.func k) first caps)) (hb : CallOk P k) (hrd : rd = none) (hN : N ≤ S.length)
    (hit : IterOk P k first caps ys (fun σ => ok σ ∧ ClS σ)) (hok : ∀ j, ok ((S ++ L j) ++ [.loop .ready none ⟨ps, assign, body, env, n⟩])) (hoks : ∀ j s q, ok ((S ++ Ls j) ++ [.loop s q ⟨ps, assign, body, env, n⟩])) (hpb : ps.toList.all (fun t => Nat.blt t n) = true) (hps : ∀ y ∈ ys, ps.size = y.length)
    (hround : ∀ j y, ys[j]? = some y → (∀ i, i < j → p i = true) → ∀ L' : MS, mwp P (some (S ++ L 0).length) ((S ++ L j).length + 1 + L'.length) n assign (fun e env1 σ1 => e = .normal ∧ ∃ J, σ1 = ((S ++ L j) ++ .loop .ready none ⟨ps, assign, body, env, n⟩ :: L') ++ J ∧
      mwp P (some (S ++ L 0).length) ((S ++ L j).length + 1 + L'.length) n body (fun e2 env2 σ2 =>
        (p j = true ∧ e2 = .normal ∧ ∃ junk, σ2 = ((S ++ L (j + 1)) ++ .loop .busy none ⟨ps, assign, body, env, n⟩ :: L') ++ junk) ∨
        (p j = false ∧ e2 = ex ∧ ∃ junk, σ2 = ((S ++ Ls j) ++ .loop .busy none ⟨ps, assign, body, env, n⟩ :: L') ++ junk)) env1 (((S ++ L j) ++ .loop .busy none ⟨ps, assign, body, env, n⟩ :: L') ++ J)) (bindPs ps.toList y env) ((S ++ L j) ++ .loop .ready none ⟨ps, assign, body, env, n⟩ :: L'))
    (hend : (∀ j, j < ys.length → p j = true) → Q .normal env ((S ++ L ys.length) ++ [.gone]))
    (hstop : ∀ j y, ys[j]? = some y → p j = false → Q ex env ((S ++ Ls j) ++ [.gone])) : mwp P rd N n (.rangeFunc f ps assign body) Q env (S ++ L0) := by
  subst hL0 hrd
  have hid : ∀ j, (S ++ L j).length = (S ++ L 0).length := fun j => by simp [hlen j]
  have hids : ∀ j, (S ++ Ls j).length = (S ++ L 0).length := fun j => by simp [hlens j]
  refine mwp_facts fun hce hcs => ?_
  have hc0 : ∀ s q, ClS ((S ++ L 0) ++ [.loop s q ⟨ps, assign, body, env, n⟩]) := fun s q => cls_loop hcs hce
  refine mwp_range hf hb (fun id h => by cases h) (by simp; omega) ?_
  have hstep : ∀ j y, ys[j]? = some y → (∀ i, i < j → p i = true) → ∀ (K : MV → MS → Prop) (L' : MS) (rd' : Option Nat) (o : Oper) (env' : Env) (f' : Operand) (args : Array Operand) (ts : Array TypeId), o.op = .call { callee := .value f', args := args, argTypes := ts } → evo env' f' = some (.yld (S ++ L 0).length) → evos env' args.toList = some y →
      (p j = true → K (.bool true) ((S ++ L (j + 1)) ++ .loop .ready none ⟨ps, assign, body, env, n⟩ :: L')) →
      (p j = false → K (.bool false) ((S ++ Ls j) ++ .loop .done (some (exCode ex)) ⟨ps, assign, body, env, n⟩ :: L')) →
      OpWp P rd' o env' ((S ++ L j) ++ .loop .ready none ⟨ps, assign, body, env, n⟩ :: L') K := by
    intro j y hy hbef K L' rd' o env' f' args ts ho hf' hargs hk1 hk2
    have hsz : args.size = y.length := by
      have := evos_len _ _ hargs
      simpa using this
    have hget : ((S ++ L j) ++ MObj.loop .ready none ⟨ps, assign, body, env, n⟩ :: L')[(S ++ L 0).length]? = some (.loop .ready none ⟨ps, assign, body, env, n⟩) := by
      rw [← hid j]; exact get_mid
    have hN' : ((S ++ L j) ++ MObj.loop .ready none ⟨ps, assign, body, env, n⟩ :: L').length = (S ++ L j).length + 1 + L'.length := by
      rw [List.length_append, List.length_cons]; omega
    refine op_yield ho hf' hargs hget (by rw [hsz]; exact hps y (List.mem_of_getElem? hy)) hpb ?_
    rw [hN']
    refine mwp_facts fun _ hcl0 => ?_
    refine mwp_mono (hround j y hy hbef L') ?_
    rintro e env1 σ1 ⟨rfl, J, rfl, h⟩
    refine ⟨rfl, none, get_app hget, ?_⟩
    have hset : (((S ++ L j) ++ MObj.loop .ready none ⟨ps, assign, body, env, n⟩ :: L') ++ J).set (S ++ L 0).length (.loop .busy none ⟨ps, assign, body, env, n⟩) = ((S ++ L j) ++ .loop .busy none ⟨ps, assign, body, env, n⟩ :: L') ++ J := by
      rw [set_app hget, ← hid j]; exact congrArg (· ++ J) set_mid
    rw [hset]
    refine mwp_mono h ?_
    rintro e2 env2 σ2 (⟨hp, rfl, junk, rfl⟩ | ⟨hp, rfl, junk, rfl⟩)
    · refine ⟨_, junk, none, ⟨ps, assign, body, env, n⟩, rfl, ?_, .inr (cls_swap (hlen j) (hlen (j + 1)) (hcl (j + 1)) (by simp) hcl0), ?_, ?_⟩
      · have h1 := hid (j + 1)
        have h2 := hid j
        simp only [List.length_append, List.length_cons] at *
        omega
      · rw [← hid (j + 1)]; exact get_mid
      · show K (.bool true) _
        rw [← hid (j + 1), set_mid]
        exact hk1 hp
    · refine ⟨_, junk, none, ⟨ps, assign, body, env, n⟩, rfl, ?_, .inr (cls_swap (hlen j) (hlens j) (hcls j) (by simp) hcl0), ?_, ?_⟩
      · have h1 := hids j
        have h2 := hid j
        simp only [List.length_append, List.length_cons] at *
        omega
      · rw [← hids j]; exact get_mid
      · rcases hex with rfl | ⟨x, rfl⟩
        · show K (.bool false) _
          rw [← hids j, set_mid]
          exact hk2 hp
        · show K (.bool false) _
          rw [← hids j, set_mid]
          exact hk2 hp
  have hgo : ∀ m, (∀ j, j < m → p j = true) → ∀ (T : Nat → MS), (∀ j, j ≤ m → T j = (S ++ L j) ++ [.loop .ready none ⟨ps, assign, body, env, n⟩]) → ∀ j y, j < m → ys[j]? = some y → YStep P (S ++ L 0).length y (T j) true (T (j + 1)) := by
    intro m hm T hT j y hj hy L' rd' o env' f' args ts ho hf' hargs
    have e1 : ∀ i (X : MObj), ((S ++ L i) ++ [X]) ++ L' = (S ++ L i) ++ X :: L' := fun i X => by simp
    rw [hT j (by omega), hT (j + 1) (by omega), e1, e1]
    exact hstep j y hy (fun i hi => hm i (by omega)) _ L' rd' o env' f' args ts ho hf' hargs (fun _ => ⟨rfl, rfl⟩) (fun h => by rw [hm j hj] at h; cases h)
  rcases first_bad p ys.length with hall | ⟨m, hm, hp, hbef⟩
  · refine ((hit (S ++ L 0).length (fun j => (S ++ L j) ++ [.loop .ready none ⟨ps, assign, body, env, n⟩]) ys.length (fun j => ⟨hok j, cls_swap (hlen 0) (hlen j) (hcl j) rfl (hc0 .ready none)⟩) (hgo ys.length hall _ (fun j _ => rfl))).1 rfl).mono ?_
    rintro v σ' rfl
    refine ⟨.ready, none, by rw [← hid ys.length]; exact get_mid, by simp, ?_⟩
    show Q .normal env _
    rw [← hid ys.length, set_mid]
    exact hend hall
  · obtain ⟨y, hy⟩ : ∃ y, ys[m]? = some y := ⟨_, List.getElem?_eq_getElem hm⟩
    let q : Code := exCode ex
    let T : Nat → MS := fun j => if j ≤ m then (S ++ L j) ++ [.loop .ready none ⟨ps, assign, body, env, n⟩] else (S ++ Ls m) ++ [.loop .done (some q) ⟨ps, assign, body, env, n⟩]
    have hT : ∀ j, j ≤ m → T j = (S ++ L j) ++ [.loop .ready none ⟨ps, assign, body, env, n⟩] := fun j hj => by simp [T, hj]
    have hT1 : T (m + 1) = (S ++ Ls m) ++ [.loop .done (some q) ⟨ps, assign, body, env, n⟩] := by simp [T]
    have h0 : T 0 = (S ++ L 0) ++ [.loop .ready none ⟨ps, assign, body, env, n⟩] := hT 0 (by omega)
    have hokT : ∀ j, ok (T j) ∧ ClS (T j) := fun j => by
      by_cases hj : j ≤ m
      · rw [hT j hj]; exact ⟨hok j, cls_swap (hlen 0) (hlen j) (hcl j) rfl (hc0 .ready none)⟩
      · simp only [T, if_neg hj]; exact ⟨hoks m _ _, cls_swap (hlen 0) (hlens m) (hcls m) rfl (hc0 .ready none)⟩
    have := (hit (S ++ L 0).length T m hokT (hgo m hbef T hT)).2 y hy (by
      intro L' rd' o env' f' args ts ho hf' hargs
      have e1 : ∀ (A : MS) (X : MObj), ((S ++ A) ++ [X]) ++ L' = (S ++ A) ++ X :: L' := fun i X => by simp
      rw [hT m (Nat.le_refl _), hT1, e1, e1]
      exact hstep m y hy hbef _ L' rd' o env' f' args ts ho hf' hargs (fun h => by rw [hp] at h; cases h) (fun _ => ⟨rfl, rfl⟩))
    rw [h0] at this
    refine this.mono ?_
    rintro v σ' rfl
    rw [hT1]
    refine ⟨.done, some q, by rw [← hids m]; exact get_mid, by simp, ?_⟩
    rw [← hids m, set_mid]
    rcases hex with rfl | ⟨x, rfl⟩
    · exact hstop m y hy hp
    · exact hstop m y hy hp
end
section
variable {P : Program} {rd : Option Nat} {o : Oper} {env : Env} {σ : MS} {K : MV → MS → Prop}
end
theorem get_box {A R : MS} {x x' y : MObj} : ((A ++ [x, y]) ++ R)[(A ++ [x']).length]? = some y := by rw [List.length_append, List.append_assoc, getElem?_own]; rfl
theorem get_box2 {A R : MS} {a b a' b' c : MObj} : ((A ++ [a, b, c]) ++ R)[(A ++ [a', b']).length]? = some c := by rw [List.length_append, List.append_assoc, getElem?_own]; rfl
section
variable {P : Program} {rd : Option Nat} {o : Oper} {env : Env} {σ σ2 : MS} {K : MV → MS → Prop}
variable {N n : Nat} {Q : Exit → Env → MS → Prop}
end
end Go.MV
end
section
set_option linter.unusedVariables false
set_option linter.unusedSimpArgs false
namespace Go.Proofs
open Go.Shelf
shelf_lay Lays2.n16 Nm2 16 at Try as Try.laysClone
shelf_lay Lays.n190 Nm 190 at Try as Try.laysSort
shelf_lay Lays.n194 Nm 194 at Try as Try.laysCompact
end Go.Proofs
namespace Go.Proofs.Ytmleelfaijafiaa
open Go Go.RowKit Go.Shelf Go.Sort
def srtF (ss : List (List UInt8)) : List (List UInt8) := Lib.compact (ss.mergeSort fun x y => decide (x ≤ y))
def SLeft (w : World) (ss : List (List UInt8)) (e : Ending) (w' : World) : Prop :=
  ∃ g cap, e = .returned (.slice (some ⟨g, 0, none⟩) (srtF ss).length cap) ∧
    w'.ownsRow w.heap.size 9 1 (.slice (some ⟨g, 0, none⟩) (srtF ss).length cap) (srtF ss).length ((srtF ss).map encStr) ∧ Below w.heap.size w w'
theorem sleft_of {w w1 : World} {g cap n nn q : Nat} {os : Array Obj} {ss : List (List UInt8)} (hown : w1.ownsRow w.heap.size 9 1 (.slice (some ⟨g, 0, none⟩) n cap) n (ss.map encStr)) (hbel : Below w.heap.size w w1) (hbg : w.heap.size ≤ g) (hlen : ss.length = n) :
    SLeft w ss (.returned (.slice (some ⟨g, 0, none⟩) (srtF ss).length cap))
      (putRow encStr (Sort.ahead (grow (putRow encStr (Sort.ahead w1 nn) g 0 (ss.mergeSort fun x y => decide (x ≤ y)).toArray) os) q) g 0 (srtF ss ++ List.replicate (n - (srtF ss).length) []).toArray) := by
  have hl2 : (ss.mergeSort fun x y => decide (x ≤ y)).length = ss.length := List.length_mergeSort ss
  have hle := Lib.compact_length_le (ss.mergeSort fun x y => decide (x ≤ y))
  unfold srtF
  subst hlen
  rcases hown.2 with ⟨h0, _⟩ | ⟨g', cap', cur, hv, hbase, hb, h1, h2, h3, h4⟩
  · cases h0
  cases hv
  have hs := ownsRow_sorted (n := nn) (os := os) (ts := ss.mergeSort fun x y => decide (x ≤ y)) hl2 hbase hb h1 h2 h3
  have hc := Lib.ownsRow_putRow (q := q) (k := (Lib.compact (ss.mergeSort fun x y => decide (x ≤ y))).length) (ys := Lib.compact (ss.mergeSort fun x y => decide (x ≤ y)) ++ List.replicate (ss.length - (Lib.compact (ss.mergeSort fun x y => decide (x ≤ y))).length) []) hs (by simp; omega) (by omega)
  rw [List.take_left] at hc
  exact ⟨g, cap, rfl, hc, Lib.below_putRow (hbel.grown (grownBy_sorted _) hbel.size (fun j hj => by cases hj; exact hbase)) hbg⟩
set_option maxHeartbeats 2000000 in
set_option maxRecDepth 100000 in
theorem sort_tail (n : Nat) (arg : Value) (ss : List (List UInt8)) (w : World) (hn : n ≤ 4611686018427387903)
    (hclone : Calls Try.prog 22 #[arg] w fun e w' => ∃ v', e = .returned v' ∧ w'.ownsRow w.heap.size 9 1 v' n (ss.map encStr) ∧ v' ≠ .slice none 0 0 ∧ Below w.heap.size w w') :
    Calls Try.prog 9 #[arg] w (SLeft w ss) := by
  go_enter Try.func9, Try.ntmps9
  go_wp2_with (first
    | (go_at_call 22; refine hclone.mono ?_; rintro e w1 ⟨v1, rfl, hown, hnn, hbel⟩
       obtain ⟨g, cap, rfl, hbg, hgl, hncap, hcm, hlen, hH⟩ := Lib.holds_of_ownsRow hown hnn
       have hsort := calls_of_every_depth fun D => AnyS.slices_Sort_string_alone Try.laysSort D g 0 cap ss w1 hH hgl (by omega)
       rw [hlen] at hsort
       have X : Aside (w1.ownsRow w.heap.size 9 1 (.slice (some ⟨g, 0, none⟩) n cap) n (ss.map encStr) ∧ Below w.heap.size w w1 ∧ w.heap.size ≤ g ∧ g < w1.heap.size ∧ n ≤ cap ∧ cap ≤ maxLen ∧ ss.length = n ∧ Holds encStr w1 g 0 ss.toArray) := ⟨hown, hbel, hbg, hgl, hncap, hcm, hlen, hH⟩
       clear hown hbel hH hnn)
    | (go_at_call 23; refine hsort.mono ?_; rintro e w2 ⟨rfl, nn, os, rfl⟩
       have hl2 : (ss.mergeSort fun x y => decide (x ≤ y)).length = n := by rw [List.length_mergeSort]; exact X.out.2.2.2.2.2.2.1
       have hH2 : Holds encStr (grow (putRow encStr (Sort.ahead w1 nn) g 0 (ss.mergeSort fun x y => decide (x ≤ y)).toArray) os) g 0 (ss.mergeSort fun x y => decide (x ≤ y)).toArray :=
         holds_grow encStr _ os g 0 _ (by simpa [putRow, mapBlock, Sort.ahead] using X.out.2.2.2.1) (holds_putRow encStr _ g 0 _ _ (holds_ahead encStr w1 nn g 0 _ X.out.2.2.2.2.2.2.2) (by simp))
       have hcomp := calls_of_every_depth fun D => AnyS.slices_Compact_string_in Try.laysCompact D g 0 cap (ss.mergeSort fun x y => decide (x ≤ y)) _ hH2 (by omega) (by have := X.out.2.2.2.2.1; omega)
       rw [hl2] at hcomp
       clear hH2 hsort)
    | (go_at_call 24; refine hcomp.mono ?_; rintro e w3 ⟨rfl, q, rfl⟩))
  go_ret
  exact sleft_of X.out.1 X.out.2.1 X.out.2.2.1 X.out.2.2.2.2.2.2.1
theorem sort_any (b off n c : Nat) (zs : List ByteArray) (w : World) (hz : n ≤ zs.length) (hbig : n * 16 ≤ 140737488355328) (hc : ∀ j, j < zs.length → w.cell? ⟨b, off + j, none⟩ = some (.string (zs.getD j ByteArray.empty))) :
    Calls Try.prog 9 #[.slice (some ⟨b, off, none⟩) n c] w (SLeft w ((zs.take n).map (·.data.toList))) :=
  sort_tail n _ _ w (by omega) ((calls_of_every_depth fun D => AnyS.slices_Clone_string_in Try.laysClone D b off n c zs w hz hbig hc).mono fun e w' ⟨v', he, hown, hnn, hbel⟩ => ⟨v', he, by rw [Lib.map_encStr]; exact hown, hnn, hbel⟩)
theorem sort_zero (a : Addr) (c : Nat) (w : World) : Calls Try.prog 9 #[.slice (some a) 0 c] w (SLeft w []) :=
  sort_tail 0 _ [] w (by omega) (calls_of_every_depth fun D => AnyS.slices_Clone_string_zero_in Try.laysClone D a c w)
set_option maxHeartbeats 2000000 in
theorem sort_nil (n c : Nat) (w : World) : Calls Try.prog 9 #[.slice none n c] w fun e w' => e = .returned (.slice none 0 0) ∧ w' = w := by
  go_enter Try.func9, Try.ntmps9
  go_wp2_with (first
    | (go_at_call 22; refine (calls_of_every_depth fun D => AnyS.slices_Clone_string_nil_in Try.laysClone D n c _).mono ?_; rintro e w' ⟨rfl, rfl⟩)
    | (go_at_call 23; refine (calls_of_every_depth fun D => AnyS.slices_Sort_string_none_alone Try.laysSort D none 0 _).mono ?_; rintro e w' ⟨rfl, rfl⟩)
    | (go_at_call 24; refine (calls_of_every_depth fun D => AnyS.slices_Compact_string_empty_in Try.laysCompact D none 0 _).mono ?_; rintro e w' ⟨rfl, rfl⟩))
  go_ret
  exact ⟨rfl, rfl⟩
end Go.Proofs.Ytmleelfaijafiaa
end
section
set_option linter.unusedVariables false
set_option linter.unusedSimpArgs false
namespace Go.MV
open Go Go.RowKit
theorem cell_below {w w' : World} (hb : Below w.heap.size w w') {b : Nat} (hlt : b < w.heap.size) (i : Nat) : w'.cell? ⟨b, i, none⟩ = w.cell? ⟨b, i, none⟩ :=
  World.cell?_of_block (w := w) (a := ⟨b, i, none⟩) (hb.block b hlt)
theorem Le.grown {g : Gh} {σ : MS} {w w' : World} (h : Rel g σ w) (hb : Below w.heap.size w w') {b : Nat} (k : Nat) (hnb : w.heap.size ≤ b) : Le g w (g.stab b k) w' := by
  refine ⟨⟨rfl, rfl, fun c i hi => ?_, fun _ _ h => h, fun _ _ _ h => h, hb.size⟩, fun c x hx => ?_⟩
  · have hlt := h.st_lt hi
    refine ⟨?_, cell_below hb hlt i⟩
    simp only [Gh.stab]
    rw [if_neg (by omega)]
    exact hi
  · have hlt : c < w.heap.size := (Array.getElem?_eq_some_iff.1 hx).1
    exact (hb.block c hlt).trans hx
theorem Rel.grown {g : Gh} {σ : MS} {w w' : World} (h : Rel g σ w) (hb : Below w.heap.size w w') {b : Nat} (k : Nat) (hnb : w.heap.size ≤ b) (hbl : b < w'.heap.size) : Rel (g.stab b k) σ w' := by
  refine ⟨h.below.trans ⟨hb.os, hb.tape, hb.output, hb.size, fun i hi => hb.block i (Nat.lt_of_lt_of_le hi h.size)⟩, h.base, fun c hc => ?_, h.bkn, h.lgn, ?_⟩
  · simp only [Gh.stab]
    rw [if_neg (by omega)]
    exact h.fresh c (by have := hb.size; omega)
  · obtain ⟨own, ho⟩ := h.ex
    refine ⟨own, ho.keep (Le.grown h hb k hnb) (fun id c e => ?_) (fun _ _ => rfl)⟩
    have hlt := (ho.lt id c e).2.2
    refine ⟨hb.block c hlt, ?_⟩
    simp only [Gh.stab]
    rw [if_neg (by omega)]
theorem rd_texts {g : Gh} {w' : World} {b : Nat} {ss : List ByteArray} {cap : Nat} (hc : ss.length ≤ cap) (hm : cap ≤ maxLen) (hcell : ∀ j s, ss[j]? = some s → w'.cell? ⟨b, j, none⟩ = some (.string s)) : Rd (g.stab b ss.length) w' (.lst none 1 (ss.map MV.str)) (.slice (some ⟨b, 0, none⟩) ss.length cap) := by
  have hfl : flat (ss.map MV.str) = ss.map MV.str := by
    induction ss with
    | nil => rfl
    | cons x l ih =>
      rw [List.map_cons, flat_cons]
      have : flat (l.map MV.str) = l.map MV.str := by
        clear ih hcell hc
        induction l with
        | nil => rfl
        | cons y l ih => rw [List.map_cons, flat_cons, ih]; rfl
      rw [this]; rfl
  have hlen : (ss.map MV.str).length = ss.length := List.length_map ..
  have := Rd.lst (g := g.stab b ss.length) (w := w') none 1 (ss.map MV.str) (some ⟨b, 0, none⟩) cap (ss.map Value.string) (by rw [hlen]; exact hc) hm (fun x hx => by
      obtain ⟨s, _, rfl⟩ := List.mem_map.1 hx
      rfl) (by rw [hfl]; simp) (fun j u hu => by
      rw [List.getElem?_map, Option.map_eq_some_iff] at hu
      obtain ⟨s, hs, rfl⟩ := hu
      have hj := (List.getElem?_eq_some_iff.1 hs).1
      refine ⟨_, rfl, ?_, ?_, rfl⟩
      · rw [show (⟨b, 0, none⟩ : Addr).add j = ⟨b, j, none⟩ by unfold Addr.add; split <;> simp_all]
        simp only [Gh.stab, if_true]
        exact hj
      · rw [show (⟨b, 0, none⟩ : Addr).add j = ⟨b, j, none⟩ by unfold Addr.add; split <;> simp_all]
        exact hcell j s hs) (fun j y u hy hu => by
      rw [hfl, List.getElem?_map, Option.map_eq_some_iff] at hy
      rw [List.getElem?_map, Option.map_eq_some_iff] at hu
      obtain ⟨s, hs, rfl⟩ := hu
      obtain ⟨s2, hs2, rfl⟩ := hy
      rw [hs] at hs2
      injection hs2 with e
      subst e
      exact .str _) (fun t ht => by cases ht)
  rwa [hlen] at this
end Go.MV
end
section
set_option linter.unusedVariables false
set_option linter.unusedSimpArgs false
namespace Go.Proofs.Ytmleelfaijafiaa
open Go Go.MV Go.RowKit Go.Sort
theorem srt_nil : srtF [] = [] := by
  unfold srtF
  simp [Lib.compact, Lib.compactUpTo]
theorem flat_X (l : List Bs) : flat (l.map encX) = l.map encX := by
  induction l with
  | nil => rfl
  | cons x l ih => rw [List.map_cons, flat_cons, ih]; rfl
theorem sort_got {g : Gh} {σ : MS} {w w' : World} {e : Ending} {ss : List Bs} (hrel : Rel g σ w) (h : SLeft w ss e w') : ∃ v, e = .returned v ∧ Gets g w (fun x σ' => x = .lst none 1 ((srtF ss).map encX) ∧ σ' = σ) v w' := by
  obtain ⟨b, cap, rfl, hown, hbel⟩ := h
  rcases hown.2 with ⟨h0, _⟩ | ⟨b', cap', cur, hv, hb, hg, h1, h2, h3, h4⟩
  · cases h0
  cases hv
  have hbl : b < w'.heap.size := (Array.getElem?_eq_some_iff.1 hg).1
  refine ⟨_, rfl, _, σ, g.stab b (srtF ss).length, ⟨rfl, rfl⟩, hrel.grown hbel _ hb hbl, ?_, Le.grown hrel hbel _ hb⟩
  have := rd_texts (g := g) (w' := w') (b := b) (ss := (srtF ss).map bs) (cap := cap) (by simpa using h1) h2 (fun j s hs => by
    rw [List.getElem?_map, Option.map_eq_some_iff] at hs
    obtain ⟨x, hx, rfl⟩ := hs
    have hj := (List.getElem?_eq_some_iff.1 hx).1
    have hk : cur.toList[j]? = some (Value.string (bs x)) := by
      have e1 : (cur.toList.take ((srtF ss).length * 1))[j]? = some (encStr x) := by rw [h4, List.getElem?_map, hx]; rfl
      rw [List.getElem?_take, if_pos (by omega)] at e1
      exact e1
    rw [Array.getElem?_toList] at hk
    show World.cell? w' ⟨b, j, none⟩ = _
    simp [World.cell?, hg, hk])
  rw [List.map_map, List.length_map] at this
  exact this
theorem rowsSort_spec (l : List Bs) (hl : l.length ≤ 1000000) (S : MS) : MCalls Try.prog 9 [.lst none 1 (l.map encX)] S fun v σ' => v = .lst none 1 ((srtF l).map encX) ∧ σ' = S := by
  intro g w vs hrel hrd
  obtain ⟨u, us, rfl, h1, h2⟩ := hrd.uncons
  have e3 : us = [] := List.eq_nil_of_length_eq_zero h2.1
  subst e3
  obtain ⟨a, c, us, rfl, hc, hm, hsz, hrds, hst, _⟩ := h1.inv_lst
  rw [flat_X] at hrds
  have hul : us.length = l.length := by rw [hrds.1, List.length_map]
  rw [List.length_map]
  cases a with
  | none =>
    have hn : l = [] := by
      cases l with
      | nil => rfl
      | cons x l =>
        cases us with
        | nil => simp at hul
        | cons u us =>
          obtain ⟨ad, h, _⟩ := hst 0 u rfl
          cases h
    subst hn
    refine (callsIn_wide.2 (sort_nil _ c w)).mono ?_
    rintro e w' ⟨rfl, rfl⟩
    refine ⟨_, rfl, _, S, g, ⟨rfl, rfl⟩, hrel, ?_, .refl _ _⟩
    rw [srt_nil]
    exact .lst none 1 [] none 0 [] (Nat.le_refl _) (Nat.zero_le _) (fun x hx => by cases hx) rfl (fun j u h => by simp at h) (fun j y u h => by simp [flat] at h) (fun t h => by cases h)
  | some ad =>
    cases l with
    | nil =>
      refine (callsIn_wide.2 (sort_zero ad c w)).mono ?_
      rintro e w' h
      exact sort_got hrel h
    | cons x0 l0 =>
      generalize hL : x0 :: l0 = l at *
      have hpos : 0 < us.length := by rw [hul, ← hL]; simp
      obtain ⟨ad', e, hs⟩ := hst 0 us[0] (List.getElem?_eq_getElem hpos)
      cases e
      have hspot := cell_spot hs.2.1
      have had : ad = ⟨ad.block, ad.off, none⟩ := by
        obtain ⟨b, o, s⟩ := ad
        cases s with
        | none => rfl
        | some q => simp [Addr.add] at hspot
      rw [had]
      have hcell : ∀ j, j < (l.map bs).length → w.cell? ⟨ad.block, ad.off + j, none⟩ = some (.string ((l.map bs).getD j ByteArray.empty)) := fun j hj => by
        rw [List.length_map] at hj
        have hj' : j < us.length := by omega
        obtain ⟨ad', e, hs⟩ := hst j us[j] (List.getElem?_eq_getElem hj')
        cases e
        obtain ⟨u, hu, hr⟩ := hrds.get (j := j) (y := encX l[j]) (by rw [List.getElem?_map, List.getElem?_eq_getElem hj]; rfl)
        rw [List.getElem?_eq_getElem hj'] at hu
        cases hu
        have e1 : us[j] = .string (bs l[j]) := (show Rd g w (.str (bs l[j])) us[j] from hr).inv_str
        have := hs.2.1
        rw [had, add_off, e1] at this
        rw [this]
        simp [hj]
      have h := sort_any ad.block ad.off l.length c (l.map bs) w (by simp) (by omega) hcell
      refine (callsIn_wide.2 h).mono ?_
      rintro e w' h
      rw [show ((l.map bs).take l.length).map (·.data.toList) = l by
        rw [List.take_of_length_le (by simp), List.map_map]
        exact (List.map_congr_left fun x _ => by simp [bs]).trans (List.map_id l)] at h
      exact sort_got hrel h
end Go.Proofs.Ytmleelfaijafiaa
end
section
set_option linter.unusedVariables false
set_option linter.unusedSimpArgs false
set_option maxRecDepth 20000
set_option maxHeartbeats 400000
namespace Go.Proofs.Ytmleelfaijafiaa
open Go Go.MV
def pairsY (l : List Bs) : List (List MV) := (List.range (l.length - 1)).map fun i => [encX (l.getD i []), encX (l.getD (i + 1) [])]
theorem pairsY_len (l : List Bs) : (pairsY l).length = l.length - 1 := by simp [pairsY]
theorem pairsY_get {l : List Bs} {i : Nat} {a b : Bs} (ha : l[i]? = some a) (hb : l[i + 1]? = some b) : (pairsY l)[i]? = some [encX a, encX b] := by
 have h1 := (List.getElem?_eq_some_iff.1 hb).1
 unfold pairsY
 rw [List.getElem?_map, List.getElem?_range (by omega)]
 simp [ha, hb]
theorem rises_iff : ∀ l : List Bs, risesF l = true ↔ ∀ i, i + 1 < l.length → Op.bytesLess (l.getD i []) (l.getD (i + 1) []) = true
 | [] => by simp [risesF]
 | [a] => by simp [risesF]
 | a :: b :: l => by
  rw [risesF, Bool.and_eq_true, rises_iff (b :: l)]
  constructor
  ·rintro ⟨h1, h2⟩ i hi
   cases i with
   | zero => simpa using h1
   | succ i => simpa using h2 i (by simpa using hi)
  ·intro h
   exact ⟨by simpa using h 0 (by simp), fun i hi => by simpa using h (i + 1) (by simpa using hi)⟩
theorem drop_cons_get {α : Type} {l r : List α} {a : α} {j : Nat} (h : a :: r = l.drop j) : l[j]? = some a ∧ r = l.drop (j + 1) := by
 have h1 := congrArg (fun q => q[0]?) h
 have h2 := congrArg (List.drop 1) h
 simp only [List.getElem?_cons_zero, List.getElem?_drop, Nat.add_zero] at h1
 refine ⟨h1.symm, ?_⟩
 simpa [List.drop_drop] using h2
theorem drop_nil_len {α : Type} {l : List α} {j : Nat} (h : [] = l.drop j) : l.length ≤ j := by
 have := congrArg List.length h
 simp at this
 omega
theorem pairs_iter (l : List Bs) (hlen : l.length ≤ maxLen) (bid l0 : Nat) : IterOk Try.prog 28 [] [.ref bid 0] (pairsY l) (fun σ => σ.length = l0 ∧ σ[bid]? = some (.cells [.lst none 1 (l.map encX)])) := by
 refine iterOk_of fun id T m hok hm hyt hyf => ?_
 refine mcalls_body Try.func28 rfl Try.ntmps28 (Nat.le_of_ble_eq_true rfl) ?_
 rw [List.append_nil]
 show mwp _ _ _ _ _ _ _ (([] : MS) ++ T 0)
 refine mwp_seq <| qR rfl <| qA rfl rfl rfl <| qN <| mwp_block ?_
 refine mwp_loopK (α := Nat) [(0, _), (1, _)] (fun j => [(3, .int .i64 ((j + 1 : Nat) : Int))]) (fun j => T j) (fun j => j ≤ m) (fun j => m + 1 - j) (0) (.keep rfl (.keep rfl (.nil))) (.keep rfl (.nil)) (by omega) (rfl) ?_
 rintro j hj
 refine mwp_seq <| mwp_seq <| qR rfl <| qM rfl rfl rfl <| qO rfl <| op_load_ref rfl rfl (hok _).2 ta34 rfl <| qE rfl rfl Try.underlying34 rfl <| qC rfl rfl rfl rfl rfl <| qN ?_
 refine mwp_cond_split rfl (fun h7 => ?_) (fun h7 => ?_)
 ·
  have hlt : j + 1 < l.length := by rw [List.length_map] at h7; simp at h7; omega
  obtain ⟨a, hs⟩ : ∃ a, l[j]? = some a := ⟨_, List.getElem?_eq_getElem (by omega)⟩
  obtain ⟨b, hs2⟩ : ∃ a, l[j + 1]? = some a := ⟨_, List.getElem?_eq_getElem hlt⟩
  have hy := pairsY_get hs hs2
  have hjl : j < (pairsY l).length := (List.getElem?_eq_some_iff.1 hy).1
  refine mwp_skip <| mwp_seq <| mwp_block <| mwp_seq ?_
  rcases Nat.lt_or_eq_of_le hj with hjm | hjm
  ·
   refine mwp_draw [10] [_, T (j + 1)] mo (by decide) rfl rfl rfl rfl ?_
   refine dO rfl rfl rfl (op_move rfl rfl ⟨rfl, rfl⟩) <| dOps_op rfl rfl (.cons (op_load_ref rfl rfl (hok _).2 ta34 rfl ⟨rfl, rfl⟩) (.cons (op_load_ref rfl rfl (hok _).2 ta34 rfl ⟨rfl, rfl⟩) (.nil))) <| dOps_op rfl rfl (.cons (op_move rfl rfl ⟨rfl, rfl⟩) (.cons (op_move rfl rfl ⟨rfl, rfl⟩) (.nil))) <| dOps_op rfl rfl (.cons (op_arith rfl rfl rfl (wsub (a := j + 1) (b := 1) (c := j) (by omega) (by simp only [maxLen] at hlen; omega)) ⟨rfl, rfl⟩) (.cons (op_arith rfl rfl rfl (wsub (a := j + 1) (b := 1) (c := j) (by omega) (by simp only [maxLen] at hlen; omega)) ⟨rfl, rfl⟩) (.nil))) ?_
   refine dOps_op rfl rfl (.cons (op_indexAddr rfl Try.underlying34 sz9 (by decide) rfl rfl rfl (get_map hs) ⟨rfl, rfl⟩) (.cons (op_indexAddr rfl Try.underlying34 sz9 (by decide) rfl rfl rfl (get_map hs) ⟨rfl, rfl⟩) (.nil))) ?_
   refine dO rfl rfl rfl (op_load_sptr rfl rfl ta9 rfl ⟨rfl, rfl⟩) <| dOps_op rfl rfl (.cons (op_load_ref rfl rfl (hok _).2 ta34 rfl ⟨rfl, rfl⟩) (.cons (op_load_ref rfl rfl (hok _).2 ta34 rfl ⟨rfl, rfl⟩) (.nil))) <| dOps_op rfl rfl (.cons (op_move rfl rfl ⟨rfl, rfl⟩) (.cons (op_move rfl rfl ⟨rfl, rfl⟩) (.nil))) <| dOps_op rfl rfl (.cons (op_indexAddr rfl Try.underlying34 sz9 (by decide) rfl rfl rfl (get_map hs2) ⟨rfl, rfl⟩) (.cons (op_indexAddr rfl Try.underlying34 sz9 (by decide) rfl rfl rfl (get_map hs2) ⟨rfl, rfl⟩) (.nil))) ?_
   refine dO rfl rfl rfl (op_load_sptr rfl rfl ta9 rfl ⟨rfl, rfl⟩) <| dOps_eff rfl rfl rfl rfl ((hyt j _ hjm hy).at0 rfl rfl rfl) <| dO rfl rfl rfl (op_not rfl rfl ⟨rfl, rfl⟩) <| dOps_nil <| mwp_cond_f rfl (rfl) <| mwp_skip <| qR rfl <| qM rfl rfl rfl <| qO rfl <| op_arith rfl rfl rfl rfl <| qA rfl rfl rfl <| qN ?_
   refine ⟨j + 1, by omega, by omega, rfl, (.keep rfl (.keep rfl (.nil))), (.eq rfl (int_succ hlt hlen) (.nil))⟩
  ·
   refine mwp_draw [10] [_, T (j + 1)] mo (by decide) rfl rfl rfl rfl ?_
   refine dO rfl rfl rfl (op_move rfl rfl ⟨rfl, rfl⟩) <| dOps_op rfl rfl (.cons (op_load_ref rfl rfl (hok _).2 ta34 rfl ⟨rfl, rfl⟩) (.cons (op_load_ref rfl rfl (hok _).2 ta34 rfl ⟨rfl, rfl⟩) (.nil))) <| dOps_op rfl rfl (.cons (op_move rfl rfl ⟨rfl, rfl⟩) (.cons (op_move rfl rfl ⟨rfl, rfl⟩) (.nil))) <| dOps_op rfl rfl (.cons (op_arith rfl rfl rfl (wsub (a := j + 1) (b := 1) (c := j) (by omega) (by simp only [maxLen] at hlen; omega)) ⟨rfl, rfl⟩) (.cons (op_arith rfl rfl rfl (wsub (a := j + 1) (b := 1) (c := j) (by omega) (by simp only [maxLen] at hlen; omega)) ⟨rfl, rfl⟩) (.nil))) ?_
   refine dOps_op rfl rfl (.cons (op_indexAddr rfl Try.underlying34 sz9 (by decide) rfl rfl rfl (get_map hs) ⟨rfl, rfl⟩) (.cons (op_indexAddr rfl Try.underlying34 sz9 (by decide) rfl rfl rfl (get_map hs) ⟨rfl, rfl⟩) (.nil))) ?_
   refine dO rfl rfl rfl (op_load_sptr rfl rfl ta9 rfl ⟨rfl, rfl⟩) <| dOps_op rfl rfl (.cons (op_load_ref rfl rfl (hok _).2 ta34 rfl ⟨rfl, rfl⟩) (.cons (op_load_ref rfl rfl (hok _).2 ta34 rfl ⟨rfl, rfl⟩) (.nil))) <| dOps_op rfl rfl (.cons (op_move rfl rfl ⟨rfl, rfl⟩) (.cons (op_move rfl rfl ⟨rfl, rfl⟩) (.nil))) <| dOps_op rfl rfl (.cons (op_indexAddr rfl Try.underlying34 sz9 (by decide) rfl rfl rfl (get_map hs2) ⟨rfl, rfl⟩) (.cons (op_indexAddr rfl Try.underlying34 sz9 (by decide) rfl rfl rfl (get_map hs2) ⟨rfl, rfl⟩) (.nil))) ?_
   refine dO rfl rfl rfl (op_load_sptr rfl rfl ta9 rfl ⟨rfl, rfl⟩) <| dOps_eff rfl rfl rfl rfl ((hyf j _ hjm hy).at0 rfl rfl rfl) <| dO rfl rfl rfl (op_not rfl rfl ⟨rfl, rfl⟩) <| dOps_nil <| mwp_cond_t rfl (rfl) ?_
   refine mwp_facts fun hcv hcl => ?_
   refine mwp_ret ?_
   exact ret_noneT (S' := T (j + 1)) (by simp) Try.results28 (by rw [(hok _).1, (hok _).1]; exact Nat.le_refl _) hcl ⟨rfl, by rw [hjm, if_pos (by omega)]⟩
 ·
  have hge : l.length ≤ j + 1 := by rw [List.length_map] at h7; simp at h7; omega
  have hpl := pairsY_len l
  have hjm : j = m := by omega
  refine mwp_facts fun hcv hcl => ?_
  refine mwp_exit ?_
  exact ret_noneT (S' := T j) (by simp) Try.results28 (by rw [(hok _).1, (hok _).1]; exact Nat.le_refl _) hcl ⟨rfl, by rw [hjm, if_neg (by rw [pairsY_len]; omega)]⟩
theorem pairs_spec (l : List Bs) (S : MS) : MCalls Try.prog 21 [.lst none 1 (l.map encX)] S fun v σ' => v = .fn (.func 28) [] [.ref S.length 0] ∧ σ' = S ++ [.cells [.lst none 1 (l.map encX)]] := by
 refine mcalls_body Try.func21 rfl Try.ntmps21 (Nat.le_of_ble_eq_true rfl) ?_
 refine mwp_seq <| qR rfl <| qB rfl rfl rfl rfl rfl <| qA rfl rfl rfl <| qN <| mwp_seq <| qR rfl <| qO rfl <| op_makeFunc rfl rfl rfl <| qA rfl rfl rfl <| qN ?_
 refine mwp_facts fun hcv hcl => ?_
 refine mwp_ret ?_
 exact ret_tmpT (.inr rfl) Try.results21 rfl (.refl _) (hcv 2 _ rfl) (by simp) hcl ⟨rfl, rfl⟩
theorem rowsIs_spec (l : List Bs) (S : MS) : MCalls Try.prog 6 [.lst none 1 (l.map encX)] S fun v σ' => v = .bool (risesF l) ∧ σ' = S := by
 refine mcalls_body Try.func6 rfl Try.ntmps6 (Nat.le_of_ble_eq_true rfl) ?_
 refine mwp_len (t := 0) rfl fun hlen => ?_
 rw [List.length_map] at hlen
 refine mwp_seq <| qR rfl <| qO rfl <| op_alloc' rfl zm4 rfl rfl <| qN <| mwp_seq <| mwp_seq <| qR rfl <| qM rfl rfl rfl ?_
 refine wOps_op rfl (op_call rfl rfl rfl co21 ((pairs_spec l _).mono ?_))
 rintro _ _ ⟨rfl, rfl⟩
 rw [List.append_assoc]
 refine qN <| mwp_block ?_
 refine mwp_rangeB (ok := fun σ => σ.length = S.length + 3 ∧ σ[(S ++ [MObj.cells [.bool false]]).length]? = some (.cells [.lst none 1 (l.map encX)])) (ys := pairsY l) .ret (.inl rfl) (fun j => Op.bytesLess (l.getD j []) (l.getD (j + 1) [])) (fun j => ([.cells [.bool false], .cells [.lst none 1 (l.map encX)]] : MS)) (fun j => ([.cells [.bool false], .cells [.lst none 1 (l.map encX)]] : MS)) (fun j => rfl) (fun j => rfl) rfl (fun j o ho n hn => by simp at ho; rcases ho with rfl | rfl <;> intro x hx <;> (simp at hx; subst hx; first | exact .bool _ | exact cl_texts _ _ | exact cl_clocks _ _)) (fun j o ho n hn => by simp at ho; rcases ho with rfl | rfl <;> intro x hx <;> (simp at hx; subst hx; first | exact .bool _ | exact cl_texts _ _ | exact cl_clocks _ _)) rfl co28 rfl (by simp) ((pairs_iter l hlen _ _).weak fun σ h => h.1) (fun j => ⟨by simp, get_box⟩) (fun j s q => ⟨by simp, get_box⟩) rfl (fun y hy => by obtain ⟨i, _, rfl⟩ := List.mem_map.1 hy; rfl) ?_ ?_ ?_
 ·
  intro j y hy hbef L'
  obtain ⟨hjl, hys⟩ := List.getElem?_eq_some_iff.1 hy
  have hpl := pairsY_len l
  obtain ⟨a, hs⟩ : ∃ a, l[j]? = some a := ⟨_, List.getElem?_eq_getElem (by omega)⟩
  obtain ⟨b, hs2⟩ : ∃ a, l[j + 1]? = some a := ⟨_, List.getElem?_eq_getElem (by omega)⟩
  have hyy := pairsY_get hs hs2
  rw [hy] at hyy
  injection hyy with hyy
  subst hyy
  have ha : l.getD j [] = a := by simp [hs]
  have hb : l.getD (j + 1) [] = b := by simp [hs2]
  rw [ha, hb]
  refine mwp_seq <| qR rfl <| qA rfl rfl rfl <| qN <| qR rfl <| qA rfl rfl rfl <| qN ?_
  refine ⟨rfl, [], by rw [List.append_nil], ?_⟩
  rw [List.append_nil]
  refine mwp_block <| mwp_seq <| qR rfl <| qM rfl rfl rfl <| qM rfl rfl rfl <| qO rfl <| op_strcmp rfl rfl rfl rfl <| qN ?_
  refine mwp_cond_split rfl (fun h11 => ?_) (fun h11 => ?_)
  ·
   refine mwp_seq <| qR rfl <| qO rfl <| op_store_mid rfl rfl rfl rfl sz4 rfl rfl (Nat.le_of_ble_eq_true rfl) rfl <| qN <| mwp_ret ?_
   exact .inr ⟨by simpa using h11, rfl, [], by rw [List.append_nil]; rfl⟩
  ·
   refine mwp_skip ?_
   exact .inl ⟨by simpa using h11, rfl, [], by rw [List.append_nil]⟩
 ·
  intro hall
  rw [List.append_assoc]
  have hr : risesF l = true := (rises_iff l).2 fun i hi => hall i (by rw [pairsY_len]; omega)
  refine mwp_seq <| qR rfl <| qO rfl <| op_store' rfl rfl rfl rfl sz4 rfl rfl (Nat.le_of_ble_eq_true rfl) rfl <| qN <| mwp_ret ?_
  exact ret_cell (.inr rfl) Try.results6 rfl rfl ta4 rfl (.refl _) (.bool _) ⟨by rw [hr], rfl⟩
 ·
  intro j y hy hp
  have hjl := (List.getElem?_eq_some_iff.1 hy).1
  rw [pairsY_len] at hjl
  have hr : risesF l = false := by
   cases h : risesF l with
   | false => rfl
   | true => rw [(rises_iff l).1 h j (by omega)] at hp; cases hp
  rw [List.append_assoc]
  exact ret_cell (.inr rfl) Try.results6 rfl rfl ta4 rfl (.refl _) (.bool _) ⟨by rw [hr], rfl⟩
theorem xSame_spec (a b : List Bs) (S : MS) : MCalls Try.prog 8 [.lst none 1 (a.map encX), .lst none 1 (b.map encX)] S fun v σ' => v = .bool (decide (a = b)) ∧ σ' = S := by
 refine mcalls_body Try.func8 rfl Try.ntmps8 (Nat.le_of_ble_eq_true rfl) ?_
 refine mwp_len (t := 0) rfl fun hlen => ?_
 rw [List.length_map] at hlen
 refine mwp_seq <| qR rfl <| qA rfl rfl rfl <| qN <| mwp_seq <| mwp_seq <| qR rfl <| qM rfl rfl rfl <| qE rfl rfl Try.underlying22 rfl <| qM rfl rfl rfl <| qE rfl rfl Try.underlying22 rfl <| qC rfl rfl rfl rfl rfl <| qN ?_
 refine mwp_cond_split rfl (fun h10 => ?_) (fun h10 => ?_)
 ·
  refine mwp_seq <| qR rfl <| qA rfl rfl rfl <| qN <| mwp_ret ?_
  exact ret_tmp (.inr rfl) Try.results8 rfl (.of_eq (by congr 1; symm; rw [decide_eq_false_iff_not]; intro e; subst e; simp at h10)) (.bool _) ⟨rfl, rfl⟩
 ·
  have hab : a.length = b.length := by simp at h10; omega
  refine mwp_skip <| mwp_seq <| mwp_seq <| qR rfl <| qA rfl rfl rfl <| qN <| mwp_block ?_
  refine mwp_loopK (α := Nat) [(0, _), (1, _)] (fun i => [(5, .int .i64 (i : Int))]) (fun i => []) (fun i => i ≤ a.length ∧ a.take i = b.take i) (fun i => a.length - i) (0) (.keep rfl (.keep rfl (.nil))) (.keep rfl (.nil)) (⟨by omega, rfl⟩) (rfl) ?_
  rintro i ⟨hi, heq⟩
  refine mwp_seq <| mwp_seq <| qR rfl <| qM rfl rfl rfl <| qM rfl rfl rfl <| qE rfl rfl Try.underlying22 rfl <| qC rfl rfl rfl rfl rfl <| qN ?_
  refine mwp_cond_split rfl (fun h14 => ?_) (fun h14 => ?_)
  ·
   have hlt : i < a.length := by simpa using h14
   obtain ⟨x, hs⟩ : ∃ q_, a[i]? = some q_ := ⟨_, List.getElem?_eq_getElem hlt⟩
   obtain ⟨y, hs2⟩ : ∃ s, b[i]? = some s := ⟨_, List.getElem?_eq_getElem (by omega)⟩
   refine mwp_skip <| mwp_seq <| mwp_block <| mwp_seq ?_
   refine mwp_draw [] [_] mo (by decide) rfl rfl rfl rfl ?_
   refine dO rfl rfl rfl (op_move rfl rfl ⟨rfl, rfl⟩) <| dO rfl rfl rfl (op_move rfl rfl ⟨rfl, rfl⟩) <| dO rfl rfl rfl (op_indexAddr rfl Try.underlying22 sz9 (by decide) rfl rfl rfl (get_map hs) ⟨rfl, rfl⟩) ?_
   refine dO rfl rfl rfl (op_load_sptr rfl rfl ta9 rfl ⟨rfl, rfl⟩) <| dO rfl rfl rfl (op_move rfl rfl ⟨rfl, rfl⟩) <| dO rfl rfl rfl (op_move rfl rfl ⟨rfl, rfl⟩) <| dO rfl rfl rfl (op_indexAddr rfl Try.underlying22 sz9 (by decide) rfl rfl rfl (get_map hs2) ⟨rfl, rfl⟩) ?_
   refine dO rfl rfl rfl (op_load_sptr rfl rfl ta9 rfl ⟨rfl, rfl⟩) <| dO rfl rfl rfl (op_strcmp rfl rfl rfl rfl ⟨rfl, rfl⟩) <| dOps_nil ?_
   refine mwp_cond_split rfl (fun h25 => ?_) (fun h25 => ?_)
   ·
    refine mwp_seq <| qR rfl <| qA rfl rfl rfl <| qN <| mwp_ret ?_
    exact ret_tmp (.inr rfl) Try.results8 rfl (.of_eq (by congr 1; symm; rw [decide_eq_false_iff_not]; intro e; subst e; rw [hs2] at hs; injection hs with hs; subst hs; simp at h25)) (.bool _) ⟨rfl, rfl⟩
   ·
    refine mwp_skip <| qR rfl <| qM rfl rfl rfl <| qO rfl <| op_arith rfl rfl rfl rfl <| qA rfl rfl rfl <| qN ?_
    refine ⟨i + 1, by omega, ⟨by omega, ?_⟩, rfl, (.keep rfl (.keep rfl (.nil))), (.eq rfl (int_succ hlt hlen) (.nil))⟩
    rw [List.take_add_one, List.take_add_one, hs, hs2, heq]
    simp at h25
    rw [h25]
  ·
   have hge : i = a.length := by simp at h14; omega
   refine mwp_exit <| mwp_seq <| qR rfl <| qA rfl rfl rfl <| qN <| mwp_ret ?_
   exact ret_tmp (.inr rfl) Try.results8 rfl (.of_eq (by congr 1; symm; rw [decide_eq_true_iff]; rw [hge, List.take_length, hab, List.take_length] at heq; exact heq)) (.bool _) ⟨rfl, rfl⟩
def bothX : List Bs → List Bs → List Bs
 | [], [] => []
 | x :: a, [] => x :: bothX a []
 | [], y :: b => y :: bothX [] b
 | x :: a, y :: b => if Op.bytesLess x y then x :: bothX a (y :: b) else if Op.bytesLess y x then y :: bothX (x :: a) b else x :: bothX a b
 termination_by a b => a.length + b.length
theorem len_snoc {α : Type} {l : List α} {x : α} : (l ++ [x]).length = l.length + 1 := by simp
theorem getDJ_of {α : Type} {l : List α} {i : Nat} {a d : α} (h : l[i]? = some a) : l.getD i d = a := by simp [h]
theorem drop_getD {l : List Bs} {i : Nat} (h : i < l.length) : l.drop i = l.getD i [] :: l.drop (i + 1) := by
 rw [List.drop_eq_getElem_cons h]; simp [h]
theorem both_end : bothX [] [] = [] := by rw [bothX]
theorem both_A {a b : List Bs} {i k : Nat} (hi : i < a.length) (hk : k ≤ b.length) (h : k = b.length ∨ Op.bytesLess (a.getD i []) (b.getD k []) = true) : bothX (a.drop i) (b.drop k) = a.getD i [] :: bothX (a.drop (i + 1)) (b.drop k) := by
 rw [drop_getD hi]
 by_cases e : k = b.length
 ·rw [e, List.drop_length, bothX]
 ·have hkb : k < b.length := by omega
  rw [drop_getD hkb, bothX, if_pos (h.resolve_left e)]
theorem both_B {a b : List Bs} {i k : Nat} (hk : k < b.length) (hi : i ≤ a.length) (h : i = a.length ∨ (Op.bytesLess (a.getD i []) (b.getD k []) = false ∧ Op.bytesLess (b.getD k []) (a.getD i []) = true)) : bothX (a.drop i) (b.drop k) = b.getD k [] :: bothX (a.drop i) (b.drop (k + 1)) := by
 rw [drop_getD hk]
 by_cases e : i = a.length
 ·rw [e, List.drop_length, bothX]
 ·have hia : i < a.length := by omega
  obtain ⟨h1, h2⟩ := h.resolve_left e
  rw [drop_getD hia, bothX, if_neg (fun hh => by rw [h1] at hh; cases hh), if_pos h2]
theorem both_C {a b : List Bs} {i k : Nat} (hi : i < a.length) (hk : k < b.length) (h1 : Op.bytesLess (a.getD i []) (b.getD k []) = false) (h2 : Op.bytesLess (b.getD k []) (a.getD i []) = false) : bothX (a.drop i) (b.drop k) = a.getD i [] :: bothX (a.drop (i + 1)) (b.drop (k + 1)) := by
 rw [drop_getD hi, drop_getD hk, bothX, if_neg (fun hh => by rw [h1] at hh; cases hh), if_neg (fun hh => by rw [h2] at hh; cases hh)]
theorem both_len : ∀ a b : List Bs, (bothX a b).length ≤ a.length + b.length := by
 intro a b
 induction a, b using bothX.induct with
 | case1 => simp [bothX]
 | case2 x a ih => rw [bothX]; simp at ih ⊢; omega
 | case3 y b ih => rw [bothX]; simp at ih ⊢; omega
 | case4 x a y b h ih => rw [bothX, if_pos h]; simp at ih ⊢; omega
 | case5 x a y b h h2 ih => rw [bothX, if_neg h, if_pos h2]; simp at ih ⊢; omega
 | case6 x a y b h h2 ih => rw [bothX, if_neg h, if_neg h2]; simp at ih ⊢; omega
theorem with_iter (a b : List Bs) (hab : a.length + b.length ≤ 1000000) (ida idb l0 : Nat) : IterOk Try.prog 32 [] [.ref ida 0, .ref idb 0] ((bothX a b).map fun x => [encX x]) (fun σ => σ.length = l0 ∧ σ[ida]? = some (.cells [.lst none 1 (a.map encX)]) ∧ σ[idb]? = some (.cells [.lst none 1 (b.map encX)])) := by
 refine iterOk_of fun id T m hok hm hyt hyf => ?_
 have hml : ((bothX a b).map fun x => [encX x]).length = (bothX a b).length := List.length_map ..
 refine mcalls_body Try.func32 rfl Try.ntmps32 (Nat.le_of_ble_eq_true rfl) ?_
 rw [List.append_nil]
 show mwp _ _ _ _ _ _ _ (([] : MS) ++ T 0)
 refine mwp_seq <| qR rfl <| qA rfl rfl rfl <| qA rfl rfl rfl <| qN <| mwp_block ?_
 refine mwp_loopK (α := Nat × Nat × Nat) [(0, _), (1, _), (2, _)] (fun x => [(4, .int .i64 (x.2.1 : Int)), (5, .int .i64 (x.2.2 : Int))]) (fun x => T x.1) (fun x => x.1 ≤ m ∧ x.2.1 ≤ a.length ∧ x.2.2 ≤ b.length ∧ bothX (a.drop x.2.1) (b.drop x.2.2) = (bothX a b).drop x.1) (fun x => a.length - x.2.1 + (b.length - x.2.2)) (⟨0, 0, 0⟩) (.keep rfl (.keep rfl (.keep rfl (.nil)))) (.keep rfl (.keep rfl (.nil))) (⟨by simp, by simp, by simp, rfl⟩) (rfl) ?_
 rintro ⟨j, i, k⟩ ⟨hj, hi, hk, he⟩
 dsimp only at hj hi hk he ⊢
 refine mwp_seq <| mwp_seq <| qR rfl <| qM rfl rfl rfl <| qO rfl <| op_load_ref rfl rfl ((hok _).2.1) ta34 rfl <| qE rfl rfl Try.underlying34 rfl <| qC rfl rfl rfl rfl rfl <| qM rfl rfl rfl ?_
 refine wOps_case (fun h11 => ?_) (fun h11 => ?_)
 ·
  have hia : i < a.length := by rw [List.length_map] at h11; simpa using h11
  refine qS rfl <| qS rfl <| qS rfl <| qS rfl <| qP rfl rfl rfl rfl <| qN <| mwp_cond_t rfl (rfl) <| mwp_skip <| mwp_block <| mwp_seq <| qR rfl <| qA rfl rfl rfl <| qN <| mwp_seq <| mwp_block <| mwp_seq ?_
  refine mwp_draw [] [_] mo (by decide) rfl rfl rfl rfl ?_
  refine dO rfl rfl rfl (op_move rfl rfl ⟨rfl, rfl⟩) <| dO rfl rfl rfl (op_load_ref rfl rfl ((hok _).2.2) ta34 rfl ⟨rfl, rfl⟩) <| dO rfl rfl rfl (op_len_lst rfl Try.underlying34 rfl ⟨rfl, rfl⟩) <| dO rfl rfl rfl (op_cmp rfl rfl rfl rfl ⟨rfl, rfl⟩) <| dO rfl rfl rfl (op_move rfl rfl ⟨rfl, rfl⟩) ?_
  refine dOps_case (fun h30 => ?_) (fun h30 => ?_)
  ·
   have hk2 : k = b.length := by rw [List.length_map] at h30; simp at h30; omega
   refine dS rfl rfl <| dS rfl rfl <| dS rfl rfl <| dS rfl rfl <| dS rfl rfl <| dS rfl rfl <| dS rfl rfl <| dS rfl rfl <| dS rfl rfl <| dS rfl rfl <| dS rfl rfl <| dS rfl rfl <| dS rfl rfl <| dS rfl rfl <| dS rfl rfl <| dO rfl rfl rfl (op_pick rfl rfl rfl ⟨rfl, rfl⟩) <| dO rfl rfl rfl (op_assign rfl rfl ⟨rfl, rfl⟩) <| dOps_nil <| mwp_cond_t rfl (rfl) <| mwp_seq ?_
   obtain ⟨x, hs⟩ : ∃ q, a[i]? = some q := ⟨_, List.getElem?_eq_getElem (by omega)⟩
   have hgx := getDJ_of (d := []) hs
   refine qR rfl <| qO rfl <| op_load_ref rfl rfl ((hok _).2.1) ta34 rfl <| qM rfl rfl rfl <| qO rfl <| op_indexAddr rfl Try.underlying34 sz9 (by decide) rfl rfl rfl (get_map hs) ?_
   refine qO rfl <| op_load_sptr rfl rfl ta9 rfl <| qA rfl rfl rfl <| qN <| qR rfl <| qM rfl rfl rfl <| qO rfl <| op_arith rfl rfl rfl (wadd (a := i) (b := 1) rfl (by omega)) ?_
   refine qA rfl rfl rfl ?_
   have hnx := he
   rw [both_A (by omega) (by omega) (by first | exact .inl hk2 | exact .inr hlt), hgx] at hnx
   obtain ⟨hy, hnx⟩ := drop_cons_get hnx
   replace hy : ((bothX a b).map fun x => [encX x])[j]? = some [encX x] := by rw [List.getElem?_map, hy]; rfl
   have hjl := (List.getElem?_eq_some_iff.1 hy).1
   refine qN <| mwp_seq ?_
   rcases Nat.lt_or_eq_of_le hj with hjm | hjm
   ·
    refine qR rfl <| qM rfl rfl rfl <| qM rfl rfl rfl <| qO rfl <| ((hyt j _ hjm hy).at0 rfl rfl rfl).mono ?_
    rintro _ _ ⟨rfl, rfl⟩
    refine qO rfl <| op_not rfl rfl <| qN <| mwp_cond_f rfl (rfl) <| mwp_skip ?_
    refine ⟨⟨j + 1, _, _⟩, by dsimp only; omega, ⟨by dsimp only; omega, by dsimp only; omega, by dsimp only; omega, hnx⟩, rfl, (.keep rfl (.keep rfl (.keep rfl (.nil)))), (.eq rfl (rfl) (.eq rfl (rfl) (.nil)))⟩
   ·
    refine qR rfl <| qM rfl rfl rfl <| qM rfl rfl rfl <| qO rfl <| ((hyf j _ hjm hy).at0 rfl rfl rfl).mono ?_
    rintro _ _ ⟨rfl, rfl⟩
    refine qO rfl <| op_not rfl rfl <| qN <| mwp_cond_t rfl (rfl) ?_
    refine mwp_facts fun hcv hcl => ?_
    refine mwp_ret ?_
    exact ret_noneT (S' := T (j + 1)) (by simp) Try.results32 (by rw [(hok _).1, (hok _).1]; exact Nat.le_refl _) hcl ⟨rfl, by rw [hjm, if_pos (by omega)]⟩
  ·
   have hk2 : ¬ k = b.length := by rw [List.length_map] at h30; simp at h30; omega
   refine dO rfl rfl rfl (op_move rfl rfl ⟨rfl, rfl⟩) <| dO rfl rfl rfl (op_load_ref rfl rfl ((hok _).2.1) ta34 rfl ⟨rfl, rfl⟩) <| dO rfl rfl rfl (op_len_lst rfl Try.underlying34 rfl ⟨rfl, rfl⟩) <| dO rfl rfl rfl (op_cmp rfl rfl rfl rfl ⟨rfl, rfl⟩) <| dO rfl rfl rfl (op_move rfl rfl ⟨rfl, rfl⟩) ?_
   refine dOps_case (fun h35 => ?_) (fun h35 => ?_)
   ·
    have hia2 : i < a.length := by rw [List.length_map] at h35; simpa using h35
    obtain ⟨x, hs⟩ : ∃ q, a[i]? = some q := ⟨_, List.getElem?_eq_getElem (by omega)⟩
    have hgx := getDJ_of (d := []) hs
    obtain ⟨y, hs2⟩ : ∃ q, b[k]? = some q := ⟨_, List.getElem?_eq_getElem (by omega)⟩
    have hgy := getDJ_of (d := []) hs2
    refine dO rfl rfl rfl (op_load_ref rfl rfl ((hok _).2.1) ta34 rfl ⟨rfl, rfl⟩) <| dO rfl rfl rfl (op_move rfl rfl ⟨rfl, rfl⟩) <| dO rfl rfl rfl (op_indexAddr rfl Try.underlying34 sz9 (by decide) rfl rfl rfl (get_map hs) ⟨rfl, rfl⟩) ?_
    refine dO rfl rfl rfl (op_load_sptr rfl rfl ta9 rfl ⟨rfl, rfl⟩) <| dO rfl rfl rfl (op_load_ref rfl rfl ((hok _).2.2) ta34 rfl ⟨rfl, rfl⟩) <| dO rfl rfl rfl (op_move rfl rfl ⟨rfl, rfl⟩) <| dO rfl rfl rfl (op_indexAddr rfl Try.underlying34 sz9 (by decide) rfl rfl rfl (get_map hs2) ⟨rfl, rfl⟩) ?_
    refine dO rfl rfl rfl (op_load_sptr rfl rfl ta9 rfl ⟨rfl, rfl⟩) <| dO rfl rfl rfl (op_strcmp rfl rfl rfl rfl ⟨rfl, rfl⟩) <| dO rfl rfl rfl (op_pick rfl rfl rfl ⟨rfl, rfl⟩) <| dO rfl rfl rfl (op_pick rfl rfl rfl ⟨rfl, rfl⟩) <| dO rfl rfl rfl (op_assign rfl rfl ⟨rfl, rfl⟩) <| dOps_nil ?_
    refine mwp_cond_split rfl (fun h25 => ?_) (fun h25 => ?_)
    ·
     have hlt : Op.bytesLess (a.getD i []) (b.getD k []) = true := by rw [hgx, hgy]; simpa using h25
     refine mwp_seq ?_
     obtain ⟨x, hs⟩ : ∃ q, a[i]? = some q := ⟨_, List.getElem?_eq_getElem (by omega)⟩
     have hgx := getDJ_of (d := []) hs
     refine qR rfl <| qO rfl <| op_load_ref rfl rfl ((hok _).2.1) ta34 rfl <| qM rfl rfl rfl <| qO rfl <| op_indexAddr rfl Try.underlying34 sz9 (by decide) rfl rfl rfl (get_map hs) ?_
     refine qO rfl <| op_load_sptr rfl rfl ta9 rfl <| qA rfl rfl rfl <| qN <| qR rfl <| qM rfl rfl rfl <| qO rfl <| op_arith rfl rfl rfl (wadd (a := i) (b := 1) rfl (by omega)) ?_
     refine qA rfl rfl rfl ?_
     have hnx := he
     rw [both_A (by omega) (by omega) (by first | exact .inl hk2 | exact .inr hlt), hgx] at hnx
     obtain ⟨hy, hnx⟩ := drop_cons_get hnx
     replace hy : ((bothX a b).map fun x => [encX x])[j]? = some [encX x] := by rw [List.getElem?_map, hy]; rfl
     have hjl := (List.getElem?_eq_some_iff.1 hy).1
     refine qN <| mwp_seq ?_
     rcases Nat.lt_or_eq_of_le hj with hjm | hjm
     ·
      refine qR rfl <| qM rfl rfl rfl <| qM rfl rfl rfl <| qO rfl <| ((hyt j _ hjm hy).at0 rfl rfl rfl).mono ?_
      rintro _ _ ⟨rfl, rfl⟩
      refine qO rfl <| op_not rfl rfl <| qN <| mwp_cond_f rfl (rfl) <| mwp_skip ?_
      refine ⟨⟨j + 1, _, _⟩, by dsimp only; omega, ⟨by dsimp only; omega, by dsimp only; omega, by dsimp only; omega, hnx⟩, rfl, (.keep rfl (.keep rfl (.keep rfl (.nil)))), (.eq rfl (rfl) (.eq rfl (rfl) (.nil)))⟩
     ·
      refine qR rfl <| qM rfl rfl rfl <| qM rfl rfl rfl <| qO rfl <| ((hyf j _ hjm hy).at0 rfl rfl rfl).mono ?_
      rintro _ _ ⟨rfl, rfl⟩
      refine qO rfl <| op_not rfl rfl <| qN <| mwp_cond_t rfl (rfl) ?_
      refine mwp_facts fun hcv hcl => ?_
      refine mwp_ret ?_
      exact ret_noneT (S' := T (j + 1)) (by simp) Try.results32 (by rw [(hok _).1, (hok _).1]; exact Nat.le_refl _) hcl ⟨rfl, by rw [hjm, if_pos (by omega)]⟩
    ·
     have hlt : Op.bytesLess (a.getD i []) (b.getD k []) = false := by rw [hgx, hgy]; simpa using h25
     refine mwp_seq ?_
     refine mwp_draw [] [_] mo (by decide) rfl rfl rfl rfl ?_
     refine dO rfl rfl rfl (op_move rfl rfl ⟨rfl, rfl⟩) <| dO rfl rfl rfl (op_load_ref rfl rfl ((hok _).2.1) ta34 rfl ⟨rfl, rfl⟩) <| dO rfl rfl rfl (op_len_lst rfl Try.underlying34 rfl ⟨rfl, rfl⟩) <| dO rfl rfl rfl (op_cmp rfl rfl rfl rfl ⟨rfl, rfl⟩) <| dO rfl rfl rfl (op_move rfl rfl ⟨rfl, rfl⟩) ?_
     refine dOps_case (fun h58 => ?_) (fun h58 => ?_)
     ·
      have hia3 : i = a.length := by rw [List.length_map] at h58; simp at h58; omega
      refine dS rfl rfl <| dS rfl rfl <| dS rfl rfl <| dS rfl rfl <| dS rfl rfl <| dS rfl rfl <| dS rfl rfl <| dS rfl rfl <| dS rfl rfl <| dO rfl rfl rfl (op_pick rfl rfl rfl ⟨rfl, rfl⟩) <| dO rfl rfl rfl (op_assign rfl rfl ⟨rfl, rfl⟩) <| dOps_nil <| mwp_cond_t rfl (rfl) <| mwp_seq ?_
      obtain ⟨y, hs2⟩ : ∃ q, b[k]? = some q := ⟨_, List.getElem?_eq_getElem (by omega)⟩
      have hgy := getDJ_of (d := []) hs2
      refine qR rfl <| qO rfl <| op_load_ref rfl rfl ((hok _).2.2) ta34 rfl <| qM rfl rfl rfl <| qO rfl <| op_indexAddr rfl Try.underlying34 sz9 (by decide) rfl rfl rfl (get_map hs2) ?_
      refine qO rfl <| op_load_sptr rfl rfl ta9 rfl <| qA rfl rfl rfl <| qN <| qR rfl <| qM rfl rfl rfl <| qO rfl <| op_arith rfl rfl rfl (wadd (a := k) (b := 1) rfl (by omega)) ?_
      refine qA rfl rfl rfl ?_
      have hnx := he
      rw [both_B (by omega) (by omega) (by first | exact .inl hia3 | exact .inr ⟨hlt, hgt⟩ | exact .inl (by omega)), hgy] at hnx
      obtain ⟨hy, hnx⟩ := drop_cons_get hnx
      replace hy : ((bothX a b).map fun x => [encX x])[j]? = some [encX y] := by rw [List.getElem?_map, hy]; rfl
      have hjl := (List.getElem?_eq_some_iff.1 hy).1
      refine qN <| mwp_seq ?_
      rcases Nat.lt_or_eq_of_le hj with hjm | hjm
      ·
       refine qR rfl <| qM rfl rfl rfl <| qM rfl rfl rfl <| qO rfl <| ((hyt j _ hjm hy).at0 rfl rfl rfl).mono ?_
       rintro _ _ ⟨rfl, rfl⟩
       refine qO rfl <| op_not rfl rfl <| qN <| mwp_cond_f rfl (rfl) <| mwp_skip ?_
       refine ⟨⟨j + 1, _, _⟩, by dsimp only; omega, ⟨by dsimp only; omega, by dsimp only; omega, by dsimp only; omega, hnx⟩, rfl, (.keep rfl (.keep rfl (.keep rfl (.nil)))), (.eq rfl (rfl) (.eq rfl (rfl) (.nil)))⟩
      ·
       refine qR rfl <| qM rfl rfl rfl <| qM rfl rfl rfl <| qO rfl <| ((hyf j _ hjm hy).at0 rfl rfl rfl).mono ?_
       rintro _ _ ⟨rfl, rfl⟩
       refine qO rfl <| op_not rfl rfl <| qN <| mwp_cond_t rfl (rfl) ?_
       refine mwp_facts fun hcv hcl => ?_
       refine mwp_ret ?_
       exact ret_noneT (S' := T (j + 1)) (by simp) Try.results32 (by rw [(hok _).1, (hok _).1]; exact Nat.le_refl _) hcl ⟨rfl, by rw [hjm, if_pos (by omega)]⟩
     ·
      have hia3 : ¬ i = a.length := by rw [List.length_map] at h58; simp at h58; omega
      obtain ⟨x, hs⟩ : ∃ q, a[i]? = some q := ⟨_, List.getElem?_eq_getElem (by omega)⟩
      have hgx := getDJ_of (d := []) hs
      obtain ⟨y, hs2⟩ : ∃ q, b[k]? = some q := ⟨_, List.getElem?_eq_getElem (by omega)⟩
      have hgy := getDJ_of (d := []) hs2
      refine dO rfl rfl rfl (op_load_ref rfl rfl ((hok _).2.2) ta34 rfl ⟨rfl, rfl⟩) <| dO rfl rfl rfl (op_move rfl rfl ⟨rfl, rfl⟩) <| dO rfl rfl rfl (op_indexAddr rfl Try.underlying34 sz9 (by decide) rfl rfl rfl (get_map hs2) ⟨rfl, rfl⟩) ?_
      refine dO rfl rfl rfl (op_load_sptr rfl rfl ta9 rfl ⟨rfl, rfl⟩) <| dO rfl rfl rfl (op_load_ref rfl rfl ((hok _).2.1) ta34 rfl ⟨rfl, rfl⟩) <| dO rfl rfl rfl (op_move rfl rfl ⟨rfl, rfl⟩) <| dO rfl rfl rfl (op_indexAddr rfl Try.underlying34 sz9 (by decide) rfl rfl rfl (get_map hs) ⟨rfl, rfl⟩) ?_
      refine dO rfl rfl rfl (op_load_sptr rfl rfl ta9 rfl ⟨rfl, rfl⟩) <| dO rfl rfl rfl (op_strcmp rfl rfl rfl rfl ⟨rfl, rfl⟩) <| dO rfl rfl rfl (op_pick rfl rfl rfl ⟨rfl, rfl⟩) <| dO rfl rfl rfl (op_assign rfl rfl ⟨rfl, rfl⟩) <| dOps_nil ?_
      refine mwp_cond_split rfl (fun h53 => ?_) (fun h53 => ?_)
      ·
       have hgt : Op.bytesLess (b.getD k []) (a.getD i []) = true := by rw [hgx, hgy]; simpa using h53
       refine mwp_seq ?_
       obtain ⟨y, hs2⟩ : ∃ q, b[k]? = some q := ⟨_, List.getElem?_eq_getElem (by omega)⟩
       have hgy := getDJ_of (d := []) hs2
       refine qR rfl <| qO rfl <| op_load_ref rfl rfl ((hok _).2.2) ta34 rfl <| qM rfl rfl rfl <| qO rfl <| op_indexAddr rfl Try.underlying34 sz9 (by decide) rfl rfl rfl (get_map hs2) ?_
       refine qO rfl <| op_load_sptr rfl rfl ta9 rfl <| qA rfl rfl rfl <| qN <| qR rfl <| qM rfl rfl rfl <| qO rfl <| op_arith rfl rfl rfl (wadd (a := k) (b := 1) rfl (by omega)) ?_
       refine qA rfl rfl rfl ?_
       have hnx := he
       rw [both_B (by omega) (by omega) (by first | exact .inl hia3 | exact .inr ⟨hlt, hgt⟩ | exact .inl (by omega)), hgy] at hnx
       obtain ⟨hy, hnx⟩ := drop_cons_get hnx
       replace hy : ((bothX a b).map fun x => [encX x])[j]? = some [encX y] := by rw [List.getElem?_map, hy]; rfl
       have hjl := (List.getElem?_eq_some_iff.1 hy).1
       refine qN <| mwp_seq ?_
       rcases Nat.lt_or_eq_of_le hj with hjm | hjm
       ·
        refine qR rfl <| qM rfl rfl rfl <| qM rfl rfl rfl <| qO rfl <| ((hyt j _ hjm hy).at0 rfl rfl rfl).mono ?_
        rintro _ _ ⟨rfl, rfl⟩
        refine qO rfl <| op_not rfl rfl <| qN <| mwp_cond_f rfl (rfl) <| mwp_skip ?_
        refine ⟨⟨j + 1, _, _⟩, by dsimp only; omega, ⟨by dsimp only; omega, by dsimp only; omega, by dsimp only; omega, hnx⟩, rfl, (.keep rfl (.keep rfl (.keep rfl (.nil)))), (.eq rfl (rfl) (.eq rfl (rfl) (.nil)))⟩
       ·
        refine qR rfl <| qM rfl rfl rfl <| qM rfl rfl rfl <| qO rfl <| ((hyf j _ hjm hy).at0 rfl rfl rfl).mono ?_
        rintro _ _ ⟨rfl, rfl⟩
        refine qO rfl <| op_not rfl rfl <| qN <| mwp_cond_t rfl (rfl) ?_
        refine mwp_facts fun hcv hcl => ?_
        refine mwp_ret ?_
        exact ret_noneT (S' := T (j + 1)) (by simp) Try.results32 (by rw [(hok _).1, (hok _).1]; exact Nat.le_refl _) hcl ⟨rfl, by rw [hjm, if_pos (by omega)]⟩
      ·
       have hgt : Op.bytesLess (b.getD k []) (a.getD i []) = false := by rw [hgx, hgy]; simpa using h53
       refine mwp_seq ?_
       obtain ⟨x, hs⟩ : ∃ q, a[i]? = some q := ⟨_, List.getElem?_eq_getElem (by omega)⟩
       have hgx := getDJ_of (d := []) hs
       refine qR rfl <| qO rfl <| op_load_ref rfl rfl ((hok _).2.1) ta34 rfl <| qM rfl rfl rfl <| qO rfl <| op_indexAddr rfl Try.underlying34 sz9 (by decide) rfl rfl rfl (get_map hs) ?_
       refine qO rfl <| op_load_sptr rfl rfl ta9 rfl <| qA rfl rfl rfl <| qN <| qR rfl <| qM rfl rfl rfl <| qO rfl <| op_arith rfl rfl rfl (wadd (a := i) (b := 1) rfl (by omega)) ?_
       refine qM rfl rfl rfl <| qO rfl <| op_arith rfl rfl rfl (wadd (a := k) (b := 1) rfl (by omega)) ?_
       refine qA rfl rfl rfl <| qA rfl rfl rfl ?_
       have hnx := he
       rw [both_C (by omega) (by omega) (by first | exact hlt | (exfalso; omega)) hgt, hgx] at hnx
       obtain ⟨hy, hnx⟩ := drop_cons_get hnx
       replace hy : ((bothX a b).map fun x => [encX x])[j]? = some [encX x] := by rw [List.getElem?_map, hy]; rfl
       have hjl := (List.getElem?_eq_some_iff.1 hy).1
       refine qN <| mwp_seq ?_
       rcases Nat.lt_or_eq_of_le hj with hjm | hjm
       ·
        refine qR rfl <| qM rfl rfl rfl <| qM rfl rfl rfl <| qO rfl <| ((hyt j _ hjm hy).at0 rfl rfl rfl).mono ?_
        rintro _ _ ⟨rfl, rfl⟩
        refine qO rfl <| op_not rfl rfl <| qN <| mwp_cond_f rfl (rfl) <| mwp_skip ?_
        refine ⟨⟨j + 1, _, _⟩, by dsimp only; omega, ⟨by dsimp only; omega, by dsimp only; omega, by dsimp only; omega, hnx⟩, rfl, (.keep rfl (.keep rfl (.keep rfl (.nil)))), (.eq rfl (rfl) (.eq rfl (rfl) (.nil)))⟩
       ·
        refine qR rfl <| qM rfl rfl rfl <| qM rfl rfl rfl <| qO rfl <| ((hyf j _ hjm hy).at0 rfl rfl rfl).mono ?_
        rintro _ _ ⟨rfl, rfl⟩
        refine qO rfl <| op_not rfl rfl <| qN <| mwp_cond_t rfl (rfl) ?_
        refine mwp_facts fun hcv hcl => ?_
        refine mwp_ret ?_
        exact ret_noneT (S' := T (j + 1)) (by simp) Try.results32 (by rw [(hok _).1, (hok _).1]; exact Nat.le_refl _) hcl ⟨rfl, by rw [hjm, if_pos (by omega)]⟩
   ·
    have hia2 : ¬ i < a.length := by rw [List.length_map] at h35; simp at h35; omega
    refine dS rfl rfl <| dS rfl rfl <| dS rfl rfl <| dS rfl rfl <| dS rfl rfl <| dS rfl rfl <| dS rfl rfl <| dS rfl rfl <| dS rfl rfl <| dO rfl rfl rfl (op_pick rfl rfl rfl ⟨rfl, rfl⟩) <| dO rfl rfl rfl (op_pick rfl rfl rfl ⟨rfl, rfl⟩) <| dO rfl rfl rfl (op_assign rfl rfl ⟨rfl, rfl⟩) <| dOps_nil <| mwp_cond_f rfl (rfl) <| mwp_seq ?_
    refine mwp_draw [] [_] mo (by decide) rfl rfl rfl rfl ?_
    refine dO rfl rfl rfl (op_move rfl rfl ⟨rfl, rfl⟩) <| dO rfl rfl rfl (op_load_ref rfl rfl ((hok _).2.1) ta34 rfl ⟨rfl, rfl⟩) <| dO rfl rfl rfl (op_len_lst rfl Try.underlying34 rfl ⟨rfl, rfl⟩) <| dO rfl rfl rfl (op_cmp rfl rfl rfl rfl ⟨rfl, rfl⟩) <| dO rfl rfl rfl (op_move rfl rfl ⟨rfl, rfl⟩) ?_
    refine dOps_case (fun h58 => ?_) (fun h58 => ?_)
    ·
     have hia3 : i = a.length := by rw [List.length_map] at h58; simp at h58; omega
     refine dS rfl rfl <| dS rfl rfl <| dS rfl rfl <| dS rfl rfl <| dS rfl rfl <| dS rfl rfl <| dS rfl rfl <| dS rfl rfl <| dS rfl rfl <| dO rfl rfl rfl (op_pick rfl rfl rfl ⟨rfl, rfl⟩) <| dO rfl rfl rfl (op_assign rfl rfl ⟨rfl, rfl⟩) <| dOps_nil <| mwp_cond_t rfl (rfl) <| mwp_seq ?_
     obtain ⟨y, hs2⟩ : ∃ q, b[k]? = some q := ⟨_, List.getElem?_eq_getElem (by omega)⟩
     have hgy := getDJ_of (d := []) hs2
     refine qR rfl <| qO rfl <| op_load_ref rfl rfl ((hok _).2.2) ta34 rfl <| qM rfl rfl rfl <| qO rfl <| op_indexAddr rfl Try.underlying34 sz9 (by decide) rfl rfl rfl (get_map hs2) ?_
     refine qO rfl <| op_load_sptr rfl rfl ta9 rfl <| qA rfl rfl rfl <| qN <| qR rfl <| qM rfl rfl rfl <| qO rfl <| op_arith rfl rfl rfl (wadd (a := k) (b := 1) rfl (by omega)) ?_
     refine qA rfl rfl rfl ?_
     have hnx := he
     rw [both_B (by omega) (by omega) (by first | exact .inl hia3 | exact .inr ⟨hlt, hgt⟩ | exact .inl (by omega)), hgy] at hnx
     obtain ⟨hy, hnx⟩ := drop_cons_get hnx
     replace hy : ((bothX a b).map fun x => [encX x])[j]? = some [encX y] := by rw [List.getElem?_map, hy]; rfl
     have hjl := (List.getElem?_eq_some_iff.1 hy).1
     refine qN <| mwp_seq ?_
     rcases Nat.lt_or_eq_of_le hj with hjm | hjm
     ·
      refine qR rfl <| qM rfl rfl rfl <| qM rfl rfl rfl <| qO rfl <| ((hyt j _ hjm hy).at0 rfl rfl rfl).mono ?_
      rintro _ _ ⟨rfl, rfl⟩
      refine qO rfl <| op_not rfl rfl <| qN <| mwp_cond_f rfl (rfl) <| mwp_skip ?_
      refine ⟨⟨j + 1, _, _⟩, by dsimp only; omega, ⟨by dsimp only; omega, by dsimp only; omega, by dsimp only; omega, hnx⟩, rfl, (.keep rfl (.keep rfl (.keep rfl (.nil)))), (.eq rfl (rfl) (.eq rfl (rfl) (.nil)))⟩
     ·
      refine qR rfl <| qM rfl rfl rfl <| qM rfl rfl rfl <| qO rfl <| ((hyf j _ hjm hy).at0 rfl rfl rfl).mono ?_
      rintro _ _ ⟨rfl, rfl⟩
      refine qO rfl <| op_not rfl rfl <| qN <| mwp_cond_t rfl (rfl) ?_
      refine mwp_facts fun hcv hcl => ?_
      refine mwp_ret ?_
      exact ret_noneT (S' := T (j + 1)) (by simp) Try.results32 (by rw [(hok _).1, (hok _).1]; exact Nat.le_refl _) hcl ⟨rfl, by rw [hjm, if_pos (by omega)]⟩
    ·
     have hia3 : ¬ i = a.length := by rw [List.length_map] at h58; simp at h58; omega
     obtain ⟨x, hs⟩ : ∃ q, a[i]? = some q := ⟨_, List.getElem?_eq_getElem (by omega)⟩
     have hgx := getDJ_of (d := []) hs
     obtain ⟨y, hs2⟩ : ∃ q, b[k]? = some q := ⟨_, List.getElem?_eq_getElem (by omega)⟩
     have hgy := getDJ_of (d := []) hs2
     refine dO rfl rfl rfl (op_load_ref rfl rfl ((hok _).2.2) ta34 rfl ⟨rfl, rfl⟩) <| dO rfl rfl rfl (op_move rfl rfl ⟨rfl, rfl⟩) <| dO rfl rfl rfl (op_indexAddr rfl Try.underlying34 sz9 (by decide) rfl rfl rfl (get_map hs2) ⟨rfl, rfl⟩) ?_
     refine dO rfl rfl rfl (op_load_sptr rfl rfl ta9 rfl ⟨rfl, rfl⟩) <| dO rfl rfl rfl (op_load_ref rfl rfl ((hok _).2.1) ta34 rfl ⟨rfl, rfl⟩) <| dO rfl rfl rfl (op_move rfl rfl ⟨rfl, rfl⟩) <| dO rfl rfl rfl (op_indexAddr rfl Try.underlying34 sz9 (by decide) rfl rfl rfl (get_map hs) ⟨rfl, rfl⟩) ?_
     refine dO rfl rfl rfl (op_load_sptr rfl rfl ta9 rfl ⟨rfl, rfl⟩) <| dO rfl rfl rfl (op_strcmp rfl rfl rfl rfl ⟨rfl, rfl⟩) <| dO rfl rfl rfl (op_pick rfl rfl rfl ⟨rfl, rfl⟩) <| dO rfl rfl rfl (op_assign rfl rfl ⟨rfl, rfl⟩) <| dOps_nil ?_
     refine mwp_cond_split rfl (fun h53 => ?_) (fun h53 => ?_)
     ·
      have hgt : Op.bytesLess (b.getD k []) (a.getD i []) = true := by rw [hgx, hgy]; simpa using h53
      refine mwp_seq ?_
      obtain ⟨y, hs2⟩ : ∃ q, b[k]? = some q := ⟨_, List.getElem?_eq_getElem (by omega)⟩
      have hgy := getDJ_of (d := []) hs2
      refine qR rfl <| qO rfl <| op_load_ref rfl rfl ((hok _).2.2) ta34 rfl <| qM rfl rfl rfl <| qO rfl <| op_indexAddr rfl Try.underlying34 sz9 (by decide) rfl rfl rfl (get_map hs2) ?_
      refine qO rfl <| op_load_sptr rfl rfl ta9 rfl <| qA rfl rfl rfl <| qN <| qR rfl <| qM rfl rfl rfl <| qO rfl <| op_arith rfl rfl rfl (wadd (a := k) (b := 1) rfl (by omega)) ?_
      refine qA rfl rfl rfl ?_
      have hnx := he
      rw [both_B (by omega) (by omega) (by first | exact .inl hia3 | exact .inr ⟨hlt, hgt⟩ | exact .inl (by omega)), hgy] at hnx
      obtain ⟨hy, hnx⟩ := drop_cons_get hnx
      replace hy : ((bothX a b).map fun x => [encX x])[j]? = some [encX y] := by rw [List.getElem?_map, hy]; rfl
      have hjl := (List.getElem?_eq_some_iff.1 hy).1
      refine qN <| mwp_seq ?_
      rcases Nat.lt_or_eq_of_le hj with hjm | hjm
      ·
       refine qR rfl <| qM rfl rfl rfl <| qM rfl rfl rfl <| qO rfl <| ((hyt j _ hjm hy).at0 rfl rfl rfl).mono ?_
       rintro _ _ ⟨rfl, rfl⟩
       refine qO rfl <| op_not rfl rfl <| qN <| mwp_cond_f rfl (rfl) <| mwp_skip ?_
       refine ⟨⟨j + 1, _, _⟩, by dsimp only; omega, ⟨by dsimp only; omega, by dsimp only; omega, by dsimp only; omega, hnx⟩, rfl, (.keep rfl (.keep rfl (.keep rfl (.nil)))), (.eq rfl (rfl) (.eq rfl (rfl) (.nil)))⟩
      ·
       refine qR rfl <| qM rfl rfl rfl <| qM rfl rfl rfl <| qO rfl <| ((hyf j _ hjm hy).at0 rfl rfl rfl).mono ?_
       rintro _ _ ⟨rfl, rfl⟩
       refine qO rfl <| op_not rfl rfl <| qN <| mwp_cond_t rfl (rfl) ?_
       refine mwp_facts fun hcv hcl => ?_
       refine mwp_ret ?_
       exact ret_noneT (S' := T (j + 1)) (by simp) Try.results32 (by rw [(hok _).1, (hok _).1]; exact Nat.le_refl _) hcl ⟨rfl, by rw [hjm, if_pos (by omega)]⟩
     ·
      have hgt : Op.bytesLess (b.getD k []) (a.getD i []) = false := by rw [hgx, hgy]; simpa using h53
      refine mwp_seq ?_
      obtain ⟨x, hs⟩ : ∃ q, a[i]? = some q := ⟨_, List.getElem?_eq_getElem (by omega)⟩
      have hgx := getDJ_of (d := []) hs
      refine qR rfl <| qO rfl <| op_load_ref rfl rfl ((hok _).2.1) ta34 rfl <| qM rfl rfl rfl <| qO rfl <| op_indexAddr rfl Try.underlying34 sz9 (by decide) rfl rfl rfl (get_map hs) ?_
      refine qO rfl <| op_load_sptr rfl rfl ta9 rfl <| qA rfl rfl rfl <| qN <| qR rfl <| qM rfl rfl rfl <| qO rfl <| op_arith rfl rfl rfl (wadd (a := i) (b := 1) rfl (by omega)) ?_
      refine qM rfl rfl rfl <| qO rfl <| op_arith rfl rfl rfl (wadd (a := k) (b := 1) rfl (by omega)) ?_
      refine qA rfl rfl rfl <| qA rfl rfl rfl ?_
      have hnx := he
      rw [both_C (by omega) (by omega) (by first | exact hlt | (exfalso; omega)) hgt, hgx] at hnx
      obtain ⟨hy, hnx⟩ := drop_cons_get hnx
      replace hy : ((bothX a b).map fun x => [encX x])[j]? = some [encX x] := by rw [List.getElem?_map, hy]; rfl
      have hjl := (List.getElem?_eq_some_iff.1 hy).1
      refine qN <| mwp_seq ?_
      rcases Nat.lt_or_eq_of_le hj with hjm | hjm
      ·
       refine qR rfl <| qM rfl rfl rfl <| qM rfl rfl rfl <| qO rfl <| ((hyt j _ hjm hy).at0 rfl rfl rfl).mono ?_
       rintro _ _ ⟨rfl, rfl⟩
       refine qO rfl <| op_not rfl rfl <| qN <| mwp_cond_f rfl (rfl) <| mwp_skip ?_
       refine ⟨⟨j + 1, _, _⟩, by dsimp only; omega, ⟨by dsimp only; omega, by dsimp only; omega, by dsimp only; omega, hnx⟩, rfl, (.keep rfl (.keep rfl (.keep rfl (.nil)))), (.eq rfl (rfl) (.eq rfl (rfl) (.nil)))⟩
      ·
       refine qR rfl <| qM rfl rfl rfl <| qM rfl rfl rfl <| qO rfl <| ((hyf j _ hjm hy).at0 rfl rfl rfl).mono ?_
       rintro _ _ ⟨rfl, rfl⟩
       refine qO rfl <| op_not rfl rfl <| qN <| mwp_cond_t rfl (rfl) ?_
       refine mwp_facts fun hcv hcl => ?_
       refine mwp_ret ?_
       exact ret_noneT (S' := T (j + 1)) (by simp) Try.results32 (by rw [(hok _).1, (hok _).1]; exact Nat.le_refl _) hcl ⟨rfl, by rw [hjm, if_pos (by omega)]⟩
 ·
  have hia : ¬ i < a.length := by rw [List.length_map] at h11; simp at h11; omega
  refine qM rfl rfl rfl <| qO rfl <| op_load_ref rfl rfl ((hok _).2.2) ta34 rfl <| qE rfl rfl Try.underlying34 rfl <| qC rfl rfl rfl rfl rfl <| qP rfl rfl rfl rfl <| qN ?_
  refine mwp_cond_split rfl (fun h16 => ?_) (fun h16 => ?_)
  ·
   have hkb : k < b.length := by rw [List.length_map] at h16; simpa using h16
   refine mwp_skip <| mwp_block <| mwp_seq <| qR rfl <| qA rfl rfl rfl <| qN <| mwp_seq <| mwp_block <| mwp_seq ?_
   refine mwp_draw [] [_] mo (by decide) rfl rfl rfl rfl ?_
   refine dO rfl rfl rfl (op_move rfl rfl ⟨rfl, rfl⟩) <| dO rfl rfl rfl (op_load_ref rfl rfl ((hok _).2.2) ta34 rfl ⟨rfl, rfl⟩) <| dO rfl rfl rfl (op_len_lst rfl Try.underlying34 rfl ⟨rfl, rfl⟩) <| dO rfl rfl rfl (op_cmp rfl rfl rfl rfl ⟨rfl, rfl⟩) <| dO rfl rfl rfl (op_move rfl rfl ⟨rfl, rfl⟩) ?_
   refine dOps_case (fun h30 => ?_) (fun h30 => ?_)
   ·
    have hk2 : k = b.length := by rw [List.length_map] at h30; simp at h30; omega
    refine dS rfl rfl <| dS rfl rfl <| dS rfl rfl <| dS rfl rfl <| dS rfl rfl <| dS rfl rfl <| dS rfl rfl <| dS rfl rfl <| dS rfl rfl <| dS rfl rfl <| dS rfl rfl <| dS rfl rfl <| dS rfl rfl <| dS rfl rfl <| dS rfl rfl <| dO rfl rfl rfl (op_pick rfl rfl rfl ⟨rfl, rfl⟩) <| dO rfl rfl rfl (op_assign rfl rfl ⟨rfl, rfl⟩) <| dOps_nil <| mwp_cond_t rfl (rfl) <| mwp_seq ?_
    obtain ⟨x, hs⟩ : ∃ q, a[i]? = some q := ⟨_, List.getElem?_eq_getElem (by omega)⟩
    have hgx := getDJ_of (d := []) hs
    refine qR rfl <| qO rfl <| op_load_ref rfl rfl ((hok _).2.1) ta34 rfl <| qM rfl rfl rfl <| qO rfl <| op_indexAddr rfl Try.underlying34 sz9 (by decide) rfl rfl rfl (get_map hs) ?_
    refine qO rfl <| op_load_sptr rfl rfl ta9 rfl <| qA rfl rfl rfl <| qN <| qR rfl <| qM rfl rfl rfl <| qO rfl <| op_arith rfl rfl rfl (wadd (a := i) (b := 1) rfl (by omega)) ?_
    refine qA rfl rfl rfl ?_
    have hnx := he
    rw [both_A (by omega) (by omega) (by first | exact .inl hk2 | exact .inr hlt), hgx] at hnx
    obtain ⟨hy, hnx⟩ := drop_cons_get hnx
    replace hy : ((bothX a b).map fun x => [encX x])[j]? = some [encX x] := by rw [List.getElem?_map, hy]; rfl
    have hjl := (List.getElem?_eq_some_iff.1 hy).1
    refine qN <| mwp_seq ?_
    rcases Nat.lt_or_eq_of_le hj with hjm | hjm
    ·
     refine qR rfl <| qM rfl rfl rfl <| qM rfl rfl rfl <| qO rfl <| ((hyt j _ hjm hy).at0 rfl rfl rfl).mono ?_
     rintro _ _ ⟨rfl, rfl⟩
     refine qO rfl <| op_not rfl rfl <| qN <| mwp_cond_f rfl (rfl) <| mwp_skip ?_
     refine ⟨⟨j + 1, _, _⟩, by dsimp only; omega, ⟨by dsimp only; omega, by dsimp only; omega, by dsimp only; omega, hnx⟩, rfl, (.keep rfl (.keep rfl (.keep rfl (.nil)))), (.eq rfl (rfl) (.eq rfl (rfl) (.nil)))⟩
    ·
     refine qR rfl <| qM rfl rfl rfl <| qM rfl rfl rfl <| qO rfl <| ((hyf j _ hjm hy).at0 rfl rfl rfl).mono ?_
     rintro _ _ ⟨rfl, rfl⟩
     refine qO rfl <| op_not rfl rfl <| qN <| mwp_cond_t rfl (rfl) ?_
     refine mwp_facts fun hcv hcl => ?_
     refine mwp_ret ?_
     exact ret_noneT (S' := T (j + 1)) (by simp) Try.results32 (by rw [(hok _).1, (hok _).1]; exact Nat.le_refl _) hcl ⟨rfl, by rw [hjm, if_pos (by omega)]⟩
   ·
    have hk2 : ¬ k = b.length := by rw [List.length_map] at h30; simp at h30; omega
    refine dO rfl rfl rfl (op_move rfl rfl ⟨rfl, rfl⟩) <| dO rfl rfl rfl (op_load_ref rfl rfl ((hok _).2.1) ta34 rfl ⟨rfl, rfl⟩) <| dO rfl rfl rfl (op_len_lst rfl Try.underlying34 rfl ⟨rfl, rfl⟩) <| dO rfl rfl rfl (op_cmp rfl rfl rfl rfl ⟨rfl, rfl⟩) <| dO rfl rfl rfl (op_move rfl rfl ⟨rfl, rfl⟩) ?_
    refine dOps_case (fun h35 => ?_) (fun h35 => ?_)
    ·
     have hia2 : i < a.length := by rw [List.length_map] at h35; simpa using h35
     obtain ⟨x, hs⟩ : ∃ q, a[i]? = some q := ⟨_, List.getElem?_eq_getElem (by omega)⟩
     have hgx := getDJ_of (d := []) hs
     obtain ⟨y, hs2⟩ : ∃ q, b[k]? = some q := ⟨_, List.getElem?_eq_getElem (by omega)⟩
     have hgy := getDJ_of (d := []) hs2
     refine dO rfl rfl rfl (op_load_ref rfl rfl ((hok _).2.1) ta34 rfl ⟨rfl, rfl⟩) <| dO rfl rfl rfl (op_move rfl rfl ⟨rfl, rfl⟩) <| dO rfl rfl rfl (op_indexAddr rfl Try.underlying34 sz9 (by decide) rfl rfl rfl (get_map hs) ⟨rfl, rfl⟩) ?_
     refine dO rfl rfl rfl (op_load_sptr rfl rfl ta9 rfl ⟨rfl, rfl⟩) <| dO rfl rfl rfl (op_load_ref rfl rfl ((hok _).2.2) ta34 rfl ⟨rfl, rfl⟩) <| dO rfl rfl rfl (op_move rfl rfl ⟨rfl, rfl⟩) <| dO rfl rfl rfl (op_indexAddr rfl Try.underlying34 sz9 (by decide) rfl rfl rfl (get_map hs2) ⟨rfl, rfl⟩) ?_
     refine dO rfl rfl rfl (op_load_sptr rfl rfl ta9 rfl ⟨rfl, rfl⟩) <| dO rfl rfl rfl (op_strcmp rfl rfl rfl rfl ⟨rfl, rfl⟩) <| dO rfl rfl rfl (op_pick rfl rfl rfl ⟨rfl, rfl⟩) <| dO rfl rfl rfl (op_pick rfl rfl rfl ⟨rfl, rfl⟩) <| dO rfl rfl rfl (op_assign rfl rfl ⟨rfl, rfl⟩) <| dOps_nil ?_
     refine mwp_cond_split rfl (fun h25 => ?_) (fun h25 => ?_)
     ·
      have hlt : Op.bytesLess (a.getD i []) (b.getD k []) = true := by rw [hgx, hgy]; simpa using h25
      refine mwp_seq ?_
      obtain ⟨x, hs⟩ : ∃ q, a[i]? = some q := ⟨_, List.getElem?_eq_getElem (by omega)⟩
      have hgx := getDJ_of (d := []) hs
      refine qR rfl <| qO rfl <| op_load_ref rfl rfl ((hok _).2.1) ta34 rfl <| qM rfl rfl rfl <| qO rfl <| op_indexAddr rfl Try.underlying34 sz9 (by decide) rfl rfl rfl (get_map hs) ?_
      refine qO rfl <| op_load_sptr rfl rfl ta9 rfl <| qA rfl rfl rfl <| qN <| qR rfl <| qM rfl rfl rfl <| qO rfl <| op_arith rfl rfl rfl (wadd (a := i) (b := 1) rfl (by omega)) ?_
      refine qA rfl rfl rfl ?_
      have hnx := he
      rw [both_A (by omega) (by omega) (by first | exact .inl hk2 | exact .inr hlt), hgx] at hnx
      obtain ⟨hy, hnx⟩ := drop_cons_get hnx
      replace hy : ((bothX a b).map fun x => [encX x])[j]? = some [encX x] := by rw [List.getElem?_map, hy]; rfl
      have hjl := (List.getElem?_eq_some_iff.1 hy).1
      refine qN <| mwp_seq ?_
      rcases Nat.lt_or_eq_of_le hj with hjm | hjm
      ·
       refine qR rfl <| qM rfl rfl rfl <| qM rfl rfl rfl <| qO rfl <| ((hyt j _ hjm hy).at0 rfl rfl rfl).mono ?_
       rintro _ _ ⟨rfl, rfl⟩
       refine qO rfl <| op_not rfl rfl <| qN <| mwp_cond_f rfl (rfl) <| mwp_skip ?_
       refine ⟨⟨j + 1, _, _⟩, by dsimp only; omega, ⟨by dsimp only; omega, by dsimp only; omega, by dsimp only; omega, hnx⟩, rfl, (.keep rfl (.keep rfl (.keep rfl (.nil)))), (.eq rfl (rfl) (.eq rfl (rfl) (.nil)))⟩
      ·
       refine qR rfl <| qM rfl rfl rfl <| qM rfl rfl rfl <| qO rfl <| ((hyf j _ hjm hy).at0 rfl rfl rfl).mono ?_
       rintro _ _ ⟨rfl, rfl⟩
       refine qO rfl <| op_not rfl rfl <| qN <| mwp_cond_t rfl (rfl) ?_
       refine mwp_facts fun hcv hcl => ?_
       refine mwp_ret ?_
       exact ret_noneT (S' := T (j + 1)) (by simp) Try.results32 (by rw [(hok _).1, (hok _).1]; exact Nat.le_refl _) hcl ⟨rfl, by rw [hjm, if_pos (by omega)]⟩
     ·
      have hlt : Op.bytesLess (a.getD i []) (b.getD k []) = false := by rw [hgx, hgy]; simpa using h25
      refine mwp_seq ?_
      refine mwp_draw [] [_] mo (by decide) rfl rfl rfl rfl ?_
      refine dO rfl rfl rfl (op_move rfl rfl ⟨rfl, rfl⟩) <| dO rfl rfl rfl (op_load_ref rfl rfl ((hok _).2.1) ta34 rfl ⟨rfl, rfl⟩) <| dO rfl rfl rfl (op_len_lst rfl Try.underlying34 rfl ⟨rfl, rfl⟩) <| dO rfl rfl rfl (op_cmp rfl rfl rfl rfl ⟨rfl, rfl⟩) <| dO rfl rfl rfl (op_move rfl rfl ⟨rfl, rfl⟩) ?_
      refine dOps_case (fun h58 => ?_) (fun h58 => ?_)
      ·
       have hia3 : i = a.length := by rw [List.length_map] at h58; simp at h58; omega
       refine dS rfl rfl <| dS rfl rfl <| dS rfl rfl <| dS rfl rfl <| dS rfl rfl <| dS rfl rfl <| dS rfl rfl <| dS rfl rfl <| dS rfl rfl <| dO rfl rfl rfl (op_pick rfl rfl rfl ⟨rfl, rfl⟩) <| dO rfl rfl rfl (op_assign rfl rfl ⟨rfl, rfl⟩) <| dOps_nil <| mwp_cond_t rfl (rfl) <| mwp_seq ?_
       obtain ⟨y, hs2⟩ : ∃ q, b[k]? = some q := ⟨_, List.getElem?_eq_getElem (by omega)⟩
       have hgy := getDJ_of (d := []) hs2
       refine qR rfl <| qO rfl <| op_load_ref rfl rfl ((hok _).2.2) ta34 rfl <| qM rfl rfl rfl <| qO rfl <| op_indexAddr rfl Try.underlying34 sz9 (by decide) rfl rfl rfl (get_map hs2) ?_
       refine qO rfl <| op_load_sptr rfl rfl ta9 rfl <| qA rfl rfl rfl <| qN <| qR rfl <| qM rfl rfl rfl <| qO rfl <| op_arith rfl rfl rfl (wadd (a := k) (b := 1) rfl (by omega)) ?_
       refine qA rfl rfl rfl ?_
       have hnx := he
       rw [both_B (by omega) (by omega) (by first | exact .inl hia3 | exact .inr ⟨hlt, hgt⟩ | exact .inl (by omega)), hgy] at hnx
       obtain ⟨hy, hnx⟩ := drop_cons_get hnx
       replace hy : ((bothX a b).map fun x => [encX x])[j]? = some [encX y] := by rw [List.getElem?_map, hy]; rfl
       have hjl := (List.getElem?_eq_some_iff.1 hy).1
       refine qN <| mwp_seq ?_
       rcases Nat.lt_or_eq_of_le hj with hjm | hjm
       ·
        refine qR rfl <| qM rfl rfl rfl <| qM rfl rfl rfl <| qO rfl <| ((hyt j _ hjm hy).at0 rfl rfl rfl).mono ?_
        rintro _ _ ⟨rfl, rfl⟩
        refine qO rfl <| op_not rfl rfl <| qN <| mwp_cond_f rfl (rfl) <| mwp_skip ?_
        refine ⟨⟨j + 1, _, _⟩, by dsimp only; omega, ⟨by dsimp only; omega, by dsimp only; omega, by dsimp only; omega, hnx⟩, rfl, (.keep rfl (.keep rfl (.keep rfl (.nil)))), (.eq rfl (rfl) (.eq rfl (rfl) (.nil)))⟩
       ·
        refine qR rfl <| qM rfl rfl rfl <| qM rfl rfl rfl <| qO rfl <| ((hyf j _ hjm hy).at0 rfl rfl rfl).mono ?_
        rintro _ _ ⟨rfl, rfl⟩
        refine qO rfl <| op_not rfl rfl <| qN <| mwp_cond_t rfl (rfl) ?_
        refine mwp_facts fun hcv hcl => ?_
        refine mwp_ret ?_
        exact ret_noneT (S' := T (j + 1)) (by simp) Try.results32 (by rw [(hok _).1, (hok _).1]; exact Nat.le_refl _) hcl ⟨rfl, by rw [hjm, if_pos (by omega)]⟩
      ·
       have hia3 : ¬ i = a.length := by rw [List.length_map] at h58; simp at h58; omega
       obtain ⟨x, hs⟩ : ∃ q, a[i]? = some q := ⟨_, List.getElem?_eq_getElem (by omega)⟩
       have hgx := getDJ_of (d := []) hs
       obtain ⟨y, hs2⟩ : ∃ q, b[k]? = some q := ⟨_, List.getElem?_eq_getElem (by omega)⟩
       have hgy := getDJ_of (d := []) hs2
       refine dO rfl rfl rfl (op_load_ref rfl rfl ((hok _).2.2) ta34 rfl ⟨rfl, rfl⟩) <| dO rfl rfl rfl (op_move rfl rfl ⟨rfl, rfl⟩) <| dO rfl rfl rfl (op_indexAddr rfl Try.underlying34 sz9 (by decide) rfl rfl rfl (get_map hs2) ⟨rfl, rfl⟩) ?_
       refine dO rfl rfl rfl (op_load_sptr rfl rfl ta9 rfl ⟨rfl, rfl⟩) <| dO rfl rfl rfl (op_load_ref rfl rfl ((hok _).2.1) ta34 rfl ⟨rfl, rfl⟩) <| dO rfl rfl rfl (op_move rfl rfl ⟨rfl, rfl⟩) <| dO rfl rfl rfl (op_indexAddr rfl Try.underlying34 sz9 (by decide) rfl rfl rfl (get_map hs) ⟨rfl, rfl⟩) ?_
       refine dO rfl rfl rfl (op_load_sptr rfl rfl ta9 rfl ⟨rfl, rfl⟩) <| dO rfl rfl rfl (op_strcmp rfl rfl rfl rfl ⟨rfl, rfl⟩) <| dO rfl rfl rfl (op_pick rfl rfl rfl ⟨rfl, rfl⟩) <| dO rfl rfl rfl (op_assign rfl rfl ⟨rfl, rfl⟩) <| dOps_nil ?_
       refine mwp_cond_split rfl (fun h53 => ?_) (fun h53 => ?_)
       ·
        have hgt : Op.bytesLess (b.getD k []) (a.getD i []) = true := by rw [hgx, hgy]; simpa using h53
        refine mwp_seq ?_
        obtain ⟨y, hs2⟩ : ∃ q, b[k]? = some q := ⟨_, List.getElem?_eq_getElem (by omega)⟩
        have hgy := getDJ_of (d := []) hs2
        refine qR rfl <| qO rfl <| op_load_ref rfl rfl ((hok _).2.2) ta34 rfl <| qM rfl rfl rfl <| qO rfl <| op_indexAddr rfl Try.underlying34 sz9 (by decide) rfl rfl rfl (get_map hs2) ?_
        refine qO rfl <| op_load_sptr rfl rfl ta9 rfl <| qA rfl rfl rfl <| qN <| qR rfl <| qM rfl rfl rfl <| qO rfl <| op_arith rfl rfl rfl (wadd (a := k) (b := 1) rfl (by omega)) ?_
        refine qA rfl rfl rfl ?_
        have hnx := he
        rw [both_B (by omega) (by omega) (by first | exact .inl hia3 | exact .inr ⟨hlt, hgt⟩ | exact .inl (by omega)), hgy] at hnx
        obtain ⟨hy, hnx⟩ := drop_cons_get hnx
        replace hy : ((bothX a b).map fun x => [encX x])[j]? = some [encX y] := by rw [List.getElem?_map, hy]; rfl
        have hjl := (List.getElem?_eq_some_iff.1 hy).1
        refine qN <| mwp_seq ?_
        rcases Nat.lt_or_eq_of_le hj with hjm | hjm
        ·
         refine qR rfl <| qM rfl rfl rfl <| qM rfl rfl rfl <| qO rfl <| ((hyt j _ hjm hy).at0 rfl rfl rfl).mono ?_
         rintro _ _ ⟨rfl, rfl⟩
         refine qO rfl <| op_not rfl rfl <| qN <| mwp_cond_f rfl (rfl) <| mwp_skip ?_
         refine ⟨⟨j + 1, _, _⟩, by dsimp only; omega, ⟨by dsimp only; omega, by dsimp only; omega, by dsimp only; omega, hnx⟩, rfl, (.keep rfl (.keep rfl (.keep rfl (.nil)))), (.eq rfl (rfl) (.eq rfl (rfl) (.nil)))⟩
        ·
         refine qR rfl <| qM rfl rfl rfl <| qM rfl rfl rfl <| qO rfl <| ((hyf j _ hjm hy).at0 rfl rfl rfl).mono ?_
         rintro _ _ ⟨rfl, rfl⟩
         refine qO rfl <| op_not rfl rfl <| qN <| mwp_cond_t rfl (rfl) ?_
         refine mwp_facts fun hcv hcl => ?_
         refine mwp_ret ?_
         exact ret_noneT (S' := T (j + 1)) (by simp) Try.results32 (by rw [(hok _).1, (hok _).1]; exact Nat.le_refl _) hcl ⟨rfl, by rw [hjm, if_pos (by omega)]⟩
       ·
        have hgt : Op.bytesLess (b.getD k []) (a.getD i []) = false := by rw [hgx, hgy]; simpa using h53
        refine mwp_seq ?_
        obtain ⟨x, hs⟩ : ∃ q, a[i]? = some q := ⟨_, List.getElem?_eq_getElem (by omega)⟩
        have hgx := getDJ_of (d := []) hs
        refine qR rfl <| qO rfl <| op_load_ref rfl rfl ((hok _).2.1) ta34 rfl <| qM rfl rfl rfl <| qO rfl <| op_indexAddr rfl Try.underlying34 sz9 (by decide) rfl rfl rfl (get_map hs) ?_
        refine qO rfl <| op_load_sptr rfl rfl ta9 rfl <| qA rfl rfl rfl <| qN <| qR rfl <| qM rfl rfl rfl <| qO rfl <| op_arith rfl rfl rfl (wadd (a := i) (b := 1) rfl (by omega)) ?_
        refine qM rfl rfl rfl <| qO rfl <| op_arith rfl rfl rfl (wadd (a := k) (b := 1) rfl (by omega)) ?_
        refine qA rfl rfl rfl <| qA rfl rfl rfl ?_
        have hnx := he
        rw [both_C (by omega) (by omega) (by first | exact hlt | (exfalso; omega)) hgt, hgx] at hnx
        obtain ⟨hy, hnx⟩ := drop_cons_get hnx
        replace hy : ((bothX a b).map fun x => [encX x])[j]? = some [encX x] := by rw [List.getElem?_map, hy]; rfl
        have hjl := (List.getElem?_eq_some_iff.1 hy).1
        refine qN <| mwp_seq ?_
        rcases Nat.lt_or_eq_of_le hj with hjm | hjm
        ·
         refine qR rfl <| qM rfl rfl rfl <| qM rfl rfl rfl <| qO rfl <| ((hyt j _ hjm hy).at0 rfl rfl rfl).mono ?_
         rintro _ _ ⟨rfl, rfl⟩
         refine qO rfl <| op_not rfl rfl <| qN <| mwp_cond_f rfl (rfl) <| mwp_skip ?_
         refine ⟨⟨j + 1, _, _⟩, by dsimp only; omega, ⟨by dsimp only; omega, by dsimp only; omega, by dsimp only; omega, hnx⟩, rfl, (.keep rfl (.keep rfl (.keep rfl (.nil)))), (.eq rfl (rfl) (.eq rfl (rfl) (.nil)))⟩
        ·
         refine qR rfl <| qM rfl rfl rfl <| qM rfl rfl rfl <| qO rfl <| ((hyf j _ hjm hy).at0 rfl rfl rfl).mono ?_
         rintro _ _ ⟨rfl, rfl⟩
         refine qO rfl <| op_not rfl rfl <| qN <| mwp_cond_t rfl (rfl) ?_
         refine mwp_facts fun hcv hcl => ?_
         refine mwp_ret ?_
         exact ret_noneT (S' := T (j + 1)) (by simp) Try.results32 (by rw [(hok _).1, (hok _).1]; exact Nat.le_refl _) hcl ⟨rfl, by rw [hjm, if_pos (by omega)]⟩
    ·
     have hia2 : ¬ i < a.length := by rw [List.length_map] at h35; simp at h35; omega
     refine dS rfl rfl <| dS rfl rfl <| dS rfl rfl <| dS rfl rfl <| dS rfl rfl <| dS rfl rfl <| dS rfl rfl <| dS rfl rfl <| dS rfl rfl <| dO rfl rfl rfl (op_pick rfl rfl rfl ⟨rfl, rfl⟩) <| dO rfl rfl rfl (op_pick rfl rfl rfl ⟨rfl, rfl⟩) <| dO rfl rfl rfl (op_assign rfl rfl ⟨rfl, rfl⟩) <| dOps_nil <| mwp_cond_f rfl (rfl) <| mwp_seq ?_
     refine mwp_draw [] [_] mo (by decide) rfl rfl rfl rfl ?_
     refine dO rfl rfl rfl (op_move rfl rfl ⟨rfl, rfl⟩) <| dO rfl rfl rfl (op_load_ref rfl rfl ((hok _).2.1) ta34 rfl ⟨rfl, rfl⟩) <| dO rfl rfl rfl (op_len_lst rfl Try.underlying34 rfl ⟨rfl, rfl⟩) <| dO rfl rfl rfl (op_cmp rfl rfl rfl rfl ⟨rfl, rfl⟩) <| dO rfl rfl rfl (op_move rfl rfl ⟨rfl, rfl⟩) ?_
     refine dOps_case (fun h58 => ?_) (fun h58 => ?_)
     ·
      have hia3 : i = a.length := by rw [List.length_map] at h58; simp at h58; omega
      refine dS rfl rfl <| dS rfl rfl <| dS rfl rfl <| dS rfl rfl <| dS rfl rfl <| dS rfl rfl <| dS rfl rfl <| dS rfl rfl <| dS rfl rfl <| dO rfl rfl rfl (op_pick rfl rfl rfl ⟨rfl, rfl⟩) <| dO rfl rfl rfl (op_assign rfl rfl ⟨rfl, rfl⟩) <| dOps_nil <| mwp_cond_t rfl (rfl) <| mwp_seq ?_
      obtain ⟨y, hs2⟩ : ∃ q, b[k]? = some q := ⟨_, List.getElem?_eq_getElem (by omega)⟩
      have hgy := getDJ_of (d := []) hs2
      refine qR rfl <| qO rfl <| op_load_ref rfl rfl ((hok _).2.2) ta34 rfl <| qM rfl rfl rfl <| qO rfl <| op_indexAddr rfl Try.underlying34 sz9 (by decide) rfl rfl rfl (get_map hs2) ?_
      refine qO rfl <| op_load_sptr rfl rfl ta9 rfl <| qA rfl rfl rfl <| qN <| qR rfl <| qM rfl rfl rfl <| qO rfl <| op_arith rfl rfl rfl (wadd (a := k) (b := 1) rfl (by omega)) ?_
      refine qA rfl rfl rfl ?_
      have hnx := he
      rw [both_B (by omega) (by omega) (by first | exact .inl hia3 | exact .inr ⟨hlt, hgt⟩ | exact .inl (by omega)), hgy] at hnx
      obtain ⟨hy, hnx⟩ := drop_cons_get hnx
      replace hy : ((bothX a b).map fun x => [encX x])[j]? = some [encX y] := by rw [List.getElem?_map, hy]; rfl
      have hjl := (List.getElem?_eq_some_iff.1 hy).1
      refine qN <| mwp_seq ?_
      rcases Nat.lt_or_eq_of_le hj with hjm | hjm
      ·
       refine qR rfl <| qM rfl rfl rfl <| qM rfl rfl rfl <| qO rfl <| ((hyt j _ hjm hy).at0 rfl rfl rfl).mono ?_
       rintro _ _ ⟨rfl, rfl⟩
       refine qO rfl <| op_not rfl rfl <| qN <| mwp_cond_f rfl (rfl) <| mwp_skip ?_
       refine ⟨⟨j + 1, _, _⟩, by dsimp only; omega, ⟨by dsimp only; omega, by dsimp only; omega, by dsimp only; omega, hnx⟩, rfl, (.keep rfl (.keep rfl (.keep rfl (.nil)))), (.eq rfl (rfl) (.eq rfl (rfl) (.nil)))⟩
      ·
       refine qR rfl <| qM rfl rfl rfl <| qM rfl rfl rfl <| qO rfl <| ((hyf j _ hjm hy).at0 rfl rfl rfl).mono ?_
       rintro _ _ ⟨rfl, rfl⟩
       refine qO rfl <| op_not rfl rfl <| qN <| mwp_cond_t rfl (rfl) ?_
       refine mwp_facts fun hcv hcl => ?_
       refine mwp_ret ?_
       exact ret_noneT (S' := T (j + 1)) (by simp) Try.results32 (by rw [(hok _).1, (hok _).1]; exact Nat.le_refl _) hcl ⟨rfl, by rw [hjm, if_pos (by omega)]⟩
     ·
      have hia3 : ¬ i = a.length := by rw [List.length_map] at h58; simp at h58; omega
      obtain ⟨x, hs⟩ : ∃ q, a[i]? = some q := ⟨_, List.getElem?_eq_getElem (by omega)⟩
      have hgx := getDJ_of (d := []) hs
      obtain ⟨y, hs2⟩ : ∃ q, b[k]? = some q := ⟨_, List.getElem?_eq_getElem (by omega)⟩
      have hgy := getDJ_of (d := []) hs2
      refine dO rfl rfl rfl (op_load_ref rfl rfl ((hok _).2.2) ta34 rfl ⟨rfl, rfl⟩) <| dO rfl rfl rfl (op_move rfl rfl ⟨rfl, rfl⟩) <| dO rfl rfl rfl (op_indexAddr rfl Try.underlying34 sz9 (by decide) rfl rfl rfl (get_map hs2) ⟨rfl, rfl⟩) ?_
      refine dO rfl rfl rfl (op_load_sptr rfl rfl ta9 rfl ⟨rfl, rfl⟩) <| dO rfl rfl rfl (op_load_ref rfl rfl ((hok _).2.1) ta34 rfl ⟨rfl, rfl⟩) <| dO rfl rfl rfl (op_move rfl rfl ⟨rfl, rfl⟩) <| dO rfl rfl rfl (op_indexAddr rfl Try.underlying34 sz9 (by decide) rfl rfl rfl (get_map hs) ⟨rfl, rfl⟩) ?_
      refine dO rfl rfl rfl (op_load_sptr rfl rfl ta9 rfl ⟨rfl, rfl⟩) <| dO rfl rfl rfl (op_strcmp rfl rfl rfl rfl ⟨rfl, rfl⟩) <| dO rfl rfl rfl (op_pick rfl rfl rfl ⟨rfl, rfl⟩) <| dO rfl rfl rfl (op_assign rfl rfl ⟨rfl, rfl⟩) <| dOps_nil ?_
      refine mwp_cond_split rfl (fun h53 => ?_) (fun h53 => ?_)
      ·
       have hgt : Op.bytesLess (b.getD k []) (a.getD i []) = true := by rw [hgx, hgy]; simpa using h53
       refine mwp_seq ?_
       obtain ⟨y, hs2⟩ : ∃ q, b[k]? = some q := ⟨_, List.getElem?_eq_getElem (by omega)⟩
       have hgy := getDJ_of (d := []) hs2
       refine qR rfl <| qO rfl <| op_load_ref rfl rfl ((hok _).2.2) ta34 rfl <| qM rfl rfl rfl <| qO rfl <| op_indexAddr rfl Try.underlying34 sz9 (by decide) rfl rfl rfl (get_map hs2) ?_
       refine qO rfl <| op_load_sptr rfl rfl ta9 rfl <| qA rfl rfl rfl <| qN <| qR rfl <| qM rfl rfl rfl <| qO rfl <| op_arith rfl rfl rfl (wadd (a := k) (b := 1) rfl (by omega)) ?_
       refine qA rfl rfl rfl ?_
       have hnx := he
       rw [both_B (by omega) (by omega) (by first | exact .inl hia3 | exact .inr ⟨hlt, hgt⟩ | exact .inl (by omega)), hgy] at hnx
       obtain ⟨hy, hnx⟩ := drop_cons_get hnx
       replace hy : ((bothX a b).map fun x => [encX x])[j]? = some [encX y] := by rw [List.getElem?_map, hy]; rfl
       have hjl := (List.getElem?_eq_some_iff.1 hy).1
       refine qN <| mwp_seq ?_
       rcases Nat.lt_or_eq_of_le hj with hjm | hjm
       ·
        refine qR rfl <| qM rfl rfl rfl <| qM rfl rfl rfl <| qO rfl <| ((hyt j _ hjm hy).at0 rfl rfl rfl).mono ?_
        rintro _ _ ⟨rfl, rfl⟩
        refine qO rfl <| op_not rfl rfl <| qN <| mwp_cond_f rfl (rfl) <| mwp_skip ?_
        refine ⟨⟨j + 1, _, _⟩, by dsimp only; omega, ⟨by dsimp only; omega, by dsimp only; omega, by dsimp only; omega, hnx⟩, rfl, (.keep rfl (.keep rfl (.keep rfl (.nil)))), (.eq rfl (rfl) (.eq rfl (rfl) (.nil)))⟩
       ·
        refine qR rfl <| qM rfl rfl rfl <| qM rfl rfl rfl <| qO rfl <| ((hyf j _ hjm hy).at0 rfl rfl rfl).mono ?_
        rintro _ _ ⟨rfl, rfl⟩
        refine qO rfl <| op_not rfl rfl <| qN <| mwp_cond_t rfl (rfl) ?_
        refine mwp_facts fun hcv hcl => ?_
        refine mwp_ret ?_
        exact ret_noneT (S' := T (j + 1)) (by simp) Try.results32 (by rw [(hok _).1, (hok _).1]; exact Nat.le_refl _) hcl ⟨rfl, by rw [hjm, if_pos (by omega)]⟩
      ·
       have hgt : Op.bytesLess (b.getD k []) (a.getD i []) = false := by rw [hgx, hgy]; simpa using h53
       refine mwp_seq ?_
       obtain ⟨x, hs⟩ : ∃ q, a[i]? = some q := ⟨_, List.getElem?_eq_getElem (by omega)⟩
       have hgx := getDJ_of (d := []) hs
       refine qR rfl <| qO rfl <| op_load_ref rfl rfl ((hok _).2.1) ta34 rfl <| qM rfl rfl rfl <| qO rfl <| op_indexAddr rfl Try.underlying34 sz9 (by decide) rfl rfl rfl (get_map hs) ?_
       refine qO rfl <| op_load_sptr rfl rfl ta9 rfl <| qA rfl rfl rfl <| qN <| qR rfl <| qM rfl rfl rfl <| qO rfl <| op_arith rfl rfl rfl (wadd (a := i) (b := 1) rfl (by omega)) ?_
       refine qM rfl rfl rfl <| qO rfl <| op_arith rfl rfl rfl (wadd (a := k) (b := 1) rfl (by omega)) ?_
       refine qA rfl rfl rfl <| qA rfl rfl rfl ?_
       have hnx := he
       rw [both_C (by omega) (by omega) (by first | exact hlt | (exfalso; omega)) hgt, hgx] at hnx
       obtain ⟨hy, hnx⟩ := drop_cons_get hnx
       replace hy : ((bothX a b).map fun x => [encX x])[j]? = some [encX x] := by rw [List.getElem?_map, hy]; rfl
       have hjl := (List.getElem?_eq_some_iff.1 hy).1
       refine qN <| mwp_seq ?_
       rcases Nat.lt_or_eq_of_le hj with hjm | hjm
       ·
        refine qR rfl <| qM rfl rfl rfl <| qM rfl rfl rfl <| qO rfl <| ((hyt j _ hjm hy).at0 rfl rfl rfl).mono ?_
        rintro _ _ ⟨rfl, rfl⟩
        refine qO rfl <| op_not rfl rfl <| qN <| mwp_cond_f rfl (rfl) <| mwp_skip ?_
        refine ⟨⟨j + 1, _, _⟩, by dsimp only; omega, ⟨by dsimp only; omega, by dsimp only; omega, by dsimp only; omega, hnx⟩, rfl, (.keep rfl (.keep rfl (.keep rfl (.nil)))), (.eq rfl (rfl) (.eq rfl (rfl) (.nil)))⟩
       ·
        refine qR rfl <| qM rfl rfl rfl <| qM rfl rfl rfl <| qO rfl <| ((hyf j _ hjm hy).at0 rfl rfl rfl).mono ?_
        rintro _ _ ⟨rfl, rfl⟩
        refine qO rfl <| op_not rfl rfl <| qN <| mwp_cond_t rfl (rfl) ?_
        refine mwp_facts fun hcv hcl => ?_
        refine mwp_ret ?_
        exact ret_noneT (S' := T (j + 1)) (by simp) Try.results32 (by rw [(hok _).1, (hok _).1]; exact Nat.le_refl _) hcl ⟨rfl, by rw [hjm, if_pos (by omega)]⟩
  ·
   have hkb : ¬ k < b.length := by rw [List.length_map] at h16; simp at h16; omega
   rw [show i = a.length by omega, show k = b.length by omega, List.drop_length, List.drop_length, both_end] at he
   have hdl := drop_nil_len he
   have hjm : j = m := by omega
   refine mwp_facts fun hcv hcl => ?_
   refine mwp_exit ?_
   exact ret_noneT (S' := T j) (by simp) Try.results32 (by rw [(hok _).1, (hok _).1]; exact Nat.le_refl _) hcl ⟨rfl, by rw [hjm, if_neg (by omega)]⟩
theorem with_spec (a b : List Bs) (S : MS) : MCalls Try.prog 26 [.lst none 1 (a.map encX), .lst none 1 (b.map encX)] S fun v σ' => v = .fn (.func 32) [] [.ref S.length 0, .ref (S.length + 1) 0] ∧ σ' = S ++ [.cells [.lst none 1 (a.map encX)], .cells [.lst none 1 (b.map encX)]] := by
 refine mcalls_body Try.func26 rfl Try.ntmps26 (Nat.le_of_ble_eq_true rfl) ?_
 refine mwp_seq <| qR rfl <| qB rfl rfl rfl rfl rfl <| qB rfl rfl rfl rfl rfl <| qA rfl rfl rfl <| qN <| mwp_seq <| qR rfl <| qO rfl <| op_makeFunc rfl rfl rfl <| qA rfl rfl rfl <| qN ?_
 refine mwp_facts fun hcv hcl => ?_
 refine mwp_ret ?_
 exact ret_tmpT (.inr rfl) Try.results26 rfl (.refl _) (hcv 4 _ rfl) (by simp) hcl ⟨rfl, rfl⟩
theorem bothL_cl {t d ty n : Nat} {xs a b : List Bs} {o : MObj} (ht : t < d) (ho : o ∈ [MObj.cells [.lst (some t) 1 (xs.map encX)], .cells [.lst none 1 (a.map encX)], .cells [.lst none 1 (b.map encX)], .row ty 1 n]) : o.cl d := by
 simp only [List.mem_cons, List.not_mem_nil, or_false] at ho
 rcases ho with rfl | rfl | rfl | rfl
 ·intro x hx
  simp at hx
  subst hx
  exact cl_lstT ht (cl_encX _) encX_one
 ·intro x hx
  simp at hx
  subst hx
  exact cl_texts _ _
 ·intro x hx
  simp at hx
  subst hx
  exact cl_texts _ _
 ·exact trivial
theorem get_b1 {A R : MS} {o a b c a' : MObj} : ((A ++ [o, a, b, c]) ++ R)[(A ++ [a']).length]? = some a := by rw [List.length_append, List.append_assoc, getElem?_own]; rfl
theorem get_b2 {A R : MS} {o a b c a' : MObj} : ((A ++ [o, a, b, c]) ++ R)[(A ++ [a']).length + 1]? = some b := by rw [List.length_append, List.append_assoc, Nat.add_assoc, getElem?_own]; rfl
theorem rowsBoth_spec (a b : List Bs) (hab : a.length + b.length ≤ 1000000) (S : MS) : MCalls Try.prog 17 [.lst none 1 (a.map encX), .lst none 1 (b.map encX)] S fun v σ' => v = .lst none 1 ((bothX a b).map encX) ∧ σ' = S := by
 refine mcalls_body Try.func17 rfl Try.ntmps17 (Nat.le_of_ble_eq_true rfl) ?_
 refine mwp_seq <| qR rfl <| qA rfl rfl rfl <| qN <| mwp_seq <| qR rfl <| qO rfl <| op_alloc' rfl zm22 rfl rfl <| qN <| mwp_seq <| mwp_seq <| qR rfl <| qM rfl rfl rfl <| qM rfl rfl rfl ?_
 refine wOps_op rfl (op_call rfl rfl rfl co26 ((with_spec a b _).mono ?_))
 rintro _ _ ⟨rfl, rfl⟩
 rw [List.append_assoc S]
 refine qN <| mwp_block <| mwp_cellrow 0 9 1 rfl (Nat.le_refl _) rfl rfl ?_
 refine mwp_rangeB (ok := fun σ => σ.length = S.length + 5 ∧ σ[(S ++ [MObj.cells [.lst0]]).length]? = some (.cells [.lst none 1 (a.map encX)]) ∧ σ[(S ++ [MObj.cells [.lst0]]).length + 1]? = some (.cells [.lst none 1 (b.map encX)])) (ys := (bothX a b).map fun x => [encX x]) .ret (.inl rfl) (fun j => true) (fun j => ([.cells [.lst (some (S.length + 3)) 1 (((bothX a b).take j).map encX)], .cells [.lst none 1 (a.map encX)], .cells [.lst none 1 (b.map encX)], .row 9 1 ((bothX a b).take j).length] : MS)) (fun j => ([.cells [.lst (some (S.length + 3)) 1 (((bothX a b).take j).map encX)], .cells [.lst none 1 (a.map encX)], .cells [.lst none 1 (b.map encX)], .row 9 1 ((bothX a b).take j).length] : MS)) (fun j => rfl) (fun j => rfl) rfl (fun j o ho n hn => bothL_cl (by simp at hn; omega) ho) (fun j o ho n hn => bothL_cl (by simp at hn; omega) ho) rfl co32 rfl (by simp) ((with_iter a b hab _ _ _).weak fun σ h => h.1) (fun j => ⟨by simp only [List.length_append, List.length_cons, List.length_nil], get_b1, get_b2⟩) (fun j s q => ⟨by simp only [List.length_append, List.length_cons, List.length_nil], get_b1, get_b2⟩) rfl (fun y hy => by obtain ⟨i, _, rfl⟩ := List.mem_map.1 hy; rfl) ?_ ?_ ?_
 ·
  intro j y hy hbef L'
  rw [List.getElem?_map] at hy
  obtain ⟨x, hp, rfl⟩ := Option.map_eq_some_iff.1 hy
  have hjl := (List.getElem?_eq_some_iff.1 hp).1
  have hbl := both_len a b
  have htl : ((bothX a b).take j).length ≤ 1000000 := by rw [List.length_take]; omega
  refine qR rfl <| qA rfl rfl rfl <| qN ?_
  refine ⟨rfl, [], by rw [List.append_nil], ?_⟩
  rw [List.append_nil]
  refine mwp_block <| qR rfl <| qO rfl <| op_load_mid rfl rfl rfl ta22 rfl <| qM rfl rfl rfl <| qO rfl <| op_buildSlice rfl Try.underlying22 el9 rfl rfl (by decide) (by decide) rfl rfl ?_
  refine qO rfl <| op_append_mid rfl Try.underlying22 el9 rfl rfl rfl (by simp) (by simp only [List.length_map, List.length_cons, List.length_nil]; omega) (by simp only [List.length_map, List.length_cons, List.length_nil]; omega) rfl ?_
  refine qO rfl <| op_store_mid rfl rfl rfl rfl sz22 rfl rfl (Nat.le_of_ble_eq_true rfl) rfl <| qN ?_
  exact .inl ⟨rfl, rfl, [], by rw [List.append_nil, List.take_add_one, hp, Option.toList_some, List.map_append, len_snoc]; rfl⟩
 ·
  intro _
  rw [List.append_assoc S]
  rw [List.length_map]
  refine mwp_seq <| qR rfl <| qL rfl rfl rfl rfl ta22 rfl <| qA rfl rfl rfl <| qN <| mwp_ret ?_
  exact ret_tmp (.inr rfl) Try.results17 rfl (Sub.trans (.view _ _ _) (.of_eq (by rw [List.take_length]))) (cl_texts _ _) ⟨rfl, rfl⟩
 ·
  intro j y hy hp
  cases hp
end Go.Proofs.Ytmleelfaijafiaa
end
section
set_option linter.unusedVariables false
set_option linter.unusedSimpArgs false
namespace Go.Proofs.Ytmleelfaijafiaa
open Go Go.MV Go.RowKit
abbrev ltB (a b : Bs) : Prop := Op.bytesLess a b = true
theorem ltB_cons {x y : UInt8} {a b : Bs} : ltB (x :: a) (y :: b) ↔ x < y ∨ (x = y ∧ ltB a b) := by
  unfold ltB
  simp [Op.bytesLess]
theorem ltB_irrefl : ∀ a : Bs, ¬ ltB a a
  | [] => by simp [ltB, Op.bytesLess]
  | x :: a => by
    rw [ltB_cons]
    rintro (h | ⟨_, h⟩)
    · exact UInt8.lt_irrefl _ h
    · exact ltB_irrefl a h
theorem ltB_trans : ∀ {a b c : Bs}, ltB a b → ltB b c → ltB a c
  | _, [], _, h, _ => by simp [ltB, Op.bytesLess] at h
  | _, _ :: _, [], _, h => by simp [ltB, Op.bytesLess] at h
  | [], _ :: _, _ :: _, _, _ => by simp [ltB, Op.bytesLess]
  | x :: a, y :: b, z :: c, h1, h2 => by
    rw [ltB_cons] at h1 h2 ⊢
    rcases h1 with h1 | ⟨rfl, h1⟩
    · rcases h2 with h2 | ⟨rfl, h2⟩
      · exact .inl (UInt8.lt_trans h1 h2)
      · exact .inl h1
    · rcases h2 with h2 | ⟨rfl, h2⟩
      · exact .inl h2
      · exact .inr ⟨rfl, ltB_trans h1 h2⟩
theorem ltB_total : ∀ a b : Bs, ltB a b ∨ a = b ∨ ltB b a
  | [], [] => .inr (.inl rfl)
  | [], _ :: _ => .inl (by simp [ltB, Op.bytesLess])
  | _ :: _, [] => .inr (.inr (by simp [ltB, Op.bytesLess]))
  | x :: a, y :: b => by
    rw [ltB_cons, ltB_cons]
    by_cases h1 : x < y
    · exact .inl (.inl h1)
    · by_cases h2 : y < x
      · exact .inr (.inr (.inl h2))
      · have e : x = y := UInt8.le_antisymm (UInt8.not_lt.1 h2) (UInt8.not_lt.1 h1)
        subst e
        rcases ltB_total a b with h | rfl | h
        · exact .inl (.inr ⟨rfl, h⟩)
        · exact .inr (.inl rfl)
        · exact .inr (.inr (.inr ⟨rfl, h⟩))
theorem ltB_asymm {a b : Bs} (h : ltB a b) : ¬ ltB b a := fun h2 => ltB_irrefl _ (ltB_trans h h2)
def Up (l : List Bs) : Prop := l.Pairwise ltB
theorem rises_up : ∀ l : List Bs, risesF l = true ↔ Up l
  | [] => by simp [risesF, Up]
  | [x] => by simp [risesF, Up]
  | x :: y :: l => by
    rw [risesF, Bool.and_eq_true, rises_up (y :: l)]
    unfold Up
    rw [List.pairwise_cons (a := x)]
    constructor
    · rintro ⟨h1, h2⟩
      refine ⟨fun z hz => ?_, h2⟩
      rcases List.mem_cons.1 hz with rfl | hz
      · exact h1
      · exact ltB_trans h1 ((List.pairwise_cons.1 h2).1 z hz)
    · rintro ⟨h1, h2⟩
      exact ⟨h1 y (.head _), h2⟩
theorem up_cons {x : Bs} {l : List Bs} : Up (x :: l) ↔ (∀ y ∈ l, ltB x y) ∧ Up l := List.pairwise_cons
theorem up_ext : ∀ {a b : List Bs}, Up a → Up b → (∀ x, x ∈ a ↔ x ∈ b) → a = b
  | [], [], _, _, _ => rfl
  | [], y :: b, _, _, h => absurd ((h y).2 (.head _)) (by simp)
  | x :: a, [], _, _, h => absurd ((h x).1 (.head _)) (by simp)
  | x :: a, y :: b, ha, hb, h => by
    have ha' := up_cons.1 ha
    have hb' := up_cons.1 hb
    have e : x = y := by
      rcases List.mem_cons.1 ((h x).1 (.head _)) with e | hx
      · exact e
      · rcases List.mem_cons.1 ((h y).2 (.head _)) with e | hy
        · exact e.symm
        · exact absurd (hb'.1 x hx) (ltB_asymm (ha'.1 y hy))
    subst e
    congr 1
    refine up_ext ha'.2 hb'.2 fun z => ⟨fun hz => ?_, fun hz => ?_⟩
    · rcases List.mem_cons.1 ((h z).1 (.tail _ hz)) with rfl | hz2
      · exact absurd (ha'.1 _ hz) (ltB_irrefl _)
      · exact hz2
    · rcases List.mem_cons.1 ((h z).2 (.tail _ hz)) with rfl | hz2
      · exact absurd (hb'.1 _ hz) (ltB_irrefl _)
      · exact hz2
theorem mem_both : ∀ (a b : List Bs) (z : Bs), z ∈ bothX a b ↔ z ∈ a ∨ z ∈ b := by
  intro a b
  induction a, b using bothX.induct with
  | case1 => simp [bothX]
  | case2 x a ih => intro z; rw [bothX, List.mem_cons, ih]; simp
  | case3 y b ih => intro z; rw [bothX, List.mem_cons, ih]; simp
  | case4 x a y b h ih => intro z; rw [bothX, if_pos h, List.mem_cons, ih]; simp [or_assoc]
  | case5 x a y b h h2 ih => intro z; rw [bothX, if_neg h, if_pos h2, List.mem_cons, ih]; simp only [List.mem_cons]; exact or_left_comm
  | case6 x a y b h h2 ih =>
    intro z
    have e : x = y := by
      rcases ltB_total x y with h3 | h3 | h3
      · exact absurd h3 h
      · exact h3
      · exact absurd h3 h2
    subst e
    rw [bothX, if_neg h, if_neg h2, List.mem_cons, ih]
    simp only [List.mem_cons]
    constructor
    · rintro (h | h | h)
      · exact .inl (.inl h)
      · exact .inl (.inr h)
      · exact .inr (.inr h)
    · rintro ((h | h) | (h | h))
      · exact .inl h
      · exact .inr (.inl h)
      · exact .inl h
      · exact .inr (.inr h)
theorem up_both : ∀ (a b : List Bs), Up a → Up b → Up (bothX a b) := by
  intro a b
  induction a, b using bothX.induct with
  | case1 => intro _ _; simp [bothX, Up]
  | case2 x a ih =>
    intro ha hb
    rw [bothX]
    refine up_cons.2 ⟨fun z hz => ?_, ih (up_cons.1 ha).2 hb⟩
    rw [mem_both] at hz
    exact (up_cons.1 ha).1 z (by simpa using hz)
  | case3 y b ih =>
    intro ha hb
    rw [bothX]
    refine up_cons.2 ⟨fun z hz => ?_, ih ha (up_cons.1 hb).2⟩
    rw [mem_both] at hz
    exact (up_cons.1 hb).1 z (by simpa using hz)
  | case4 x a y b h ih =>
    intro ha hb
    rw [bothX, if_pos h]
    refine up_cons.2 ⟨fun z hz => ?_, ih (up_cons.1 ha).2 hb⟩
    rw [mem_both] at hz
    rcases hz with hz | hz
    · exact (up_cons.1 ha).1 z hz
    · rcases List.mem_cons.1 hz with rfl | hz
      · exact h
      · exact ltB_trans h ((up_cons.1 hb).1 z hz)
  | case5 x a y b h h2 ih =>
    intro ha hb
    rw [bothX, if_neg h, if_pos h2]
    refine up_cons.2 ⟨fun z hz => ?_, ih ha (up_cons.1 hb).2⟩
    rw [mem_both] at hz
    rcases hz with hz | hz
    · rcases List.mem_cons.1 hz with rfl | hz
      · exact h2
      · exact ltB_trans h2 ((up_cons.1 ha).1 z hz)
    · exact (up_cons.1 hb).1 z hz
  | case6 x a y b h h2 ih =>
    intro ha hb
    have e : x = y := by
      rcases ltB_total x y with h3 | h3 | h3
      · exact absurd h3 h
      · exact h3
      · exact absurd h3 h2
    subst e
    rw [bothX, if_neg h, if_neg h2]
    refine up_cons.2 ⟨fun z hz => ?_, ih (up_cons.1 ha).2 (up_cons.1 hb).2⟩
    rw [mem_both] at hz
    rcases hz with hz | hz
    · exact (up_cons.1 ha).1 z hz
    · exact (up_cons.1 hb).1 z hz
def putT (s : Bs) : List Bs → List Bs
  | [] => [s]
  | y :: l => if y = s then y :: l else if Op.bytesLess s y then s :: y :: l else y :: putT s l
theorem mem_put (s : Bs) : ∀ (l : List Bs) (z : Bs), z ∈ putT s l ↔ z = s ∨ z ∈ l
  | [], z => by simp [putT]
  | y :: l, z => by
    rw [putT]
    split
    · rename_i h; subst h; simp
    · split
      · simp
      · rw [List.mem_cons, mem_put s l, List.mem_cons]; exact or_left_comm
theorem up_put (s : Bs) : ∀ (l : List Bs), Up l → Up (putT s l)
  | [], _ => by simp [putT, Up]
  | y :: l, h => by
    rw [putT]
    split
    · exact h
    · rename_i hne
      split
      · rename_i hlt
        refine up_cons.2 ⟨fun z hz => ?_, h⟩
        rcases List.mem_cons.1 hz with rfl | hz
        · exact hlt
        · exact ltB_trans hlt ((up_cons.1 h).1 z hz)
      · rename_i hlt
        refine up_cons.2 ⟨fun z hz => ?_, up_put s l (up_cons.1 h).2⟩
        rw [mem_put] at hz
        rcases hz with rfl | hz
        · rcases ltB_total z y with h3 | h3 | h3
          · exact absurd h3 hlt
          · exact absurd h3.symm hne
          · exact h3
        · exact (up_cons.1 h).1 z hz
theorem put_len (s : Bs) : ∀ l : List Bs, (putT s l).length ≤ l.length + 1
  | [] => by simp [putT]
  | y :: l => by
    rw [putT]
    split
    · simp
    · split
      · simp
      · have := put_len s l; simp; omega
def putAll (a b : List Bs) : List Bs := b.foldl (fun o x => putT x o) a
theorem putAll_cons (a : List Bs) (x : Bs) (b : List Bs) : putAll a (x :: b) = putAll (putT x a) b := rfl
theorem mem_putAll : ∀ (b a : List Bs) (z : Bs), z ∈ putAll a b ↔ z ∈ a ∨ z ∈ b
  | [], a, z => by simp [putAll]
  | x :: b, a, z => by
    rw [putAll_cons, mem_putAll b, mem_put, List.mem_cons]
    constructor
    · rintro ((h | h) | h)
      · exact .inr (.inl h)
      · exact .inl h
      · exact .inr (.inr h)
    · rintro (h | h | h)
      · exact .inl (.inr h)
      · exact .inl (.inl h)
      · exact .inr h
theorem up_putAll : ∀ (b a : List Bs), Up a → Up (putAll a b)
  | [], a, h => h
  | x :: b, a, h => by rw [putAll_cons]; exact up_putAll b _ (up_put x a h)
theorem putAll_len : ∀ (b a : List Bs), (putAll a b).length ≤ a.length + b.length
  | [], a => by simp [putAll]
  | x :: b, a => by
    rw [putAll_cons]
    have h1 := putAll_len b (putT x a)
    have h2 := put_len x a
    simp
    omega
theorem both_put {a b : List Bs} (ha : Up a) (hb : Up b) : putAll a b = bothX a b := up_ext (up_putAll b a ha) (up_both a b ha hb) fun z => by rw [mem_putAll, mem_both]
def sortT (l : List Bs) : List Bs := putAll [] l
theorem up_sort (l : List Bs) : Up (sortT l) := up_putAll l [] .nil
theorem sort_len (l : List Bs) : (sortT l).length ≤ l.length := by have := putAll_len l []; unfold sortT; simpa using this
end Go.Proofs.Ytmleelfaijafiaa
end
section
set_option linter.unusedVariables false
set_option linter.unusedSimpArgs false
set_option maxRecDepth 20000
set_option maxHeartbeats 400000
namespace Go.Proofs.Ytmleelfaijafiaa
open Go Go.MV
def woT (s : Bs) (l : List Bs) : List Bs := l.filter fun x => !decide (x = s)
theorem wo_yes {s x : Bs} {l : List Bs} {i : Nat} (h : l[i]? = some x) (hx : ¬ x = s) : woT s (l.take (i + 1)) = woT s (l.take i) ++ [x] := by
 unfold woT
 rw [List.take_add_one, h, Option.toList_some, List.filter_append]
 simp [hx]
theorem wo_no {s x : Bs} {l : List Bs} {i : Nat} (h : l[i]? = some x) (hx : x = s) : woT s (l.take (i + 1)) = woT s (l.take i) := by
 unfold woT
 rw [List.take_add_one, h, Option.toList_some, List.filter_append]
 simp [hx]
theorem wo_len (s : Bs) (l : List Bs) : (woT s l).length ≤ l.length := List.length_filter_le _ _
theorem both_nil : ∀ l : List Bs, bothX l [] = l
 | [] => by rw [bothX]
 | x :: l => by rw [bothX, both_nil l]
def lowB (t : Bs) (x : List Bs) : Nat := (x.filter fun y => Op.bytesLess y t).length
theorem low_le (t : Bs) (x : List Bs) : lowB t x ≤ x.length := List.length_filter_le _ _
theorem low_lt {t : Bs} : ∀ {x : List Bs}, Up x → ∀ {h : Nat} {y : Bs}, x[h]? = some y → (Op.bytesLess y t = true ↔ h < lowB t x)
 | [], _, h, y, hs => by simp at hs
 | a :: l, hu, h, y, hs => by
  obtain ⟨h1, h2⟩ := List.pairwise_cons.1 hu
  by_cases ha : Op.bytesLess a t = true
  ·have e : lowB t (a :: l) = lowB t l + 1 := by unfold lowB; rw [List.filter_cons, if_pos ha]; rfl
   rw [e]
   cases h with
   | zero => simp at hs; subst hs; simp [ha]
   | succ h =>
    rw [low_lt h2 (h := h) (by simpa using hs)]
    omega
  ·have hn : ∀ z ∈ l, ¬ Op.bytesLess z t = true := fun z hz hh => ha (ltB_trans (h1 z hz) hh)
   have e : lowB t (a :: l) = 0 := by
    unfold lowB
    rw [List.filter_cons, if_neg ha, List.filter_eq_nil_iff.2 hn]; rfl
   rw [e]
   have hy : ¬ Op.bytesLess y t = true := by
    cases h with
    | zero => simp at hs; subst hs; exact ha
    | succ h => exact hn y (List.mem_of_getElem? (by simpa using hs))
   simp [hy]
theorem low_mem {t : Bs} {x : List Bs} (hu : Up x) : t ∈ x ↔ x[lowB t x]? = some t := by
 constructor
 ·intro h
  obtain ⟨p, hp⟩ := List.getElem?_of_mem h
  have h1 : ¬ p < lowB t x := fun hh => ltB_irrefl _ ((low_lt hu hp).2 hh)
  rcases Nat.lt_or_eq_of_le (Nat.le_of_not_lt h1) with h2 | h2
  ·have hpl := (List.getElem?_eq_some_iff.1 hp).1
   obtain ⟨z, hz⟩ : ∃ z, x[lowB t x]? = some z := ⟨_, List.getElem?_eq_getElem (by omega)⟩
   have hlt : Op.bytesLess z t = true := by
    have := List.pairwise_iff_getElem.1 hu (lowB t x) p (by omega) hpl h2
    rw [(List.getElem?_eq_some_iff.1 hz).2, (List.getElem?_eq_some_iff.1 hp).2] at this
    exact this
   exact absurd ((low_lt hu hz).1 hlt) (by omega)
  ·rw [h2]; exact hp
 ·exact fun h => List.mem_of_getElem? h
theorem u64_nat {n : Nat} (h : n < 18446744073709551616) : IntKind.u64.wrap (n : Int) = (n : Int) := by
 simp [IntKind.wrap, IntKind.signed, IntKind.bits]
 omega
theorem i64_nat {n : Nat} (h : n < 9223372036854775808) : IntKind.i64.wrap (n : Int) = (n : Int) := by
 simp [IntKind.wrap, IntKind.signed, IntKind.bits]
 omega
theorem shr1_u64 {m : Nat} : Int.fdiv (m : Int) (2 ^ min ((1 : Int).toNat) IntKind.u64.bits) = ((m / 2 : Nat) : Int) := by
 rw [show min ((1 : Int).toNat) IntKind.u64.bits = 1 by decide, show (2 : Int) ^ 1 = ((2 : Nat) : Int) by decide, Int.fdiv_eq_ediv_of_nonneg _ (Int.natCast_nonneg _)]
 rfl
theorem get_s3 {A R : MS} {s o a b c s' o' : MObj} : ((A ++ [s, o, a, b, c]) ++ R)[(A ++ [s', o']).length]? = some a := by rw [List.length_append, List.append_assoc, getElem?_own]; rfl
theorem get_s4 {A R : MS} {s o a b c s' o' : MObj} : ((A ++ [s, o, a, b, c]) ++ R)[(A ++ [s', o']).length + 1]? = some b := by rw [List.length_append, List.append_assoc, Nat.add_assoc, getElem?_own]; rfl
theorem isNaNs_spec (x : Bs) (S : MS) : MCalls Try.prog 51 [encX x] S fun v σ' => v = .bool false ∧ σ' = S := by
 refine mcalls_body Try.func51 rfl Try.ntmps51 (Nat.le_of_ble_eq_true rfl) ?_
 refine mwp_seq <| qR rfl <| qA rfl rfl rfl <| qN <| mwp_seq <| qR rfl <| qM rfl rfl rfl <| qM rfl rfl rfl <| qO rfl <| op_strcmp rfl rfl rfl rfl <| qA rfl rfl rfl <| qN <| mwp_ret ?_
 exact ret_tmp (.inr rfl) Try.results51 rfl (.of_eq (by simp)) (.bool _) ⟨rfl, rfl⟩
theorem isNaNx_spec (x : Bs) (S : MS) : MCalls Try.prog 45 [encX x] S fun v σ' => v = .bool false ∧ σ' = S := by
 refine mcalls_body Try.func45 rfl Try.ntmps45 (Nat.le_of_ble_eq_true rfl) ?_
 refine mwp_seq <| qR rfl <| qA rfl rfl rfl <| qN <| mwp_seq <| qR rfl <| qM rfl rfl rfl <| qM rfl rfl rfl <| qO rfl <| op_strcmp rfl rfl rfl rfl <| qA rfl rfl rfl <| qN <| mwp_ret ?_
 exact ret_tmp (.inr rfl) Try.results45 rfl (.of_eq (by simp)) (.bool _) ⟨rfl, rfl⟩
theorem lessS_spec (x y : Bs) (S : MS) : MCalls Try.prog 40 [encX x, encX y] S fun v σ' => v = .bool (Op.bytesLess x y) ∧ σ' = S := by
 refine mcalls_body Try.func40 rfl Try.ntmps40 (Nat.le_of_ble_eq_true rfl) ?_
 refine mwp_seq <| qR rfl <| qA rfl rfl rfl <| qN <| mwp_seq <| qR rfl <| qM rfl rfl rfl ?_
 refine wOps_op rfl (op_call rfl rfl rfl co51 ((isNaNs_spec x _).mono ?_))
 rintro _ _ ⟨rfl, rfl⟩
 refine qM rfl rfl rfl ?_
 refine wOps_case (fun h7 => ?_) (fun h7 => ?_)
 ·
  refine qM rfl rfl rfl ?_
  refine wOps_op rfl (op_call rfl rfl rfl co51 ((isNaNs_spec y _).mono ?_))
  rintro _ _ ⟨rfl, rfl⟩
  refine qO rfl <| op_not rfl rfl <| qP rfl rfl rfl rfl <| qM rfl rfl rfl ?_
  refine wOps_case (fun h12 => ?_) (fun h12 => ?_)
  ·
   refine qS rfl <| qS rfl <| qS rfl <| qP rfl rfl rfl rfl <| qA rfl rfl rfl <| qN <| mwp_ret ?_
   exact ret_tmp (.inr rfl) Try.results40 rfl (.of_eq (by first | (simp; done) | (simp_all; done))) (.bool _) ⟨rfl, rfl⟩
  ·
   refine qM rfl rfl rfl <| qM rfl rfl rfl <| qO rfl <| op_strcmp rfl rfl rfl rfl <| qP rfl rfl rfl rfl <| qA rfl rfl rfl <| qN <| mwp_ret ?_
   exact ret_tmp (.inr rfl) Try.results40 rfl (.of_eq (by first | (simp; done) | (simp_all; done))) (.bool _) ⟨rfl, rfl⟩
 ·
  refine qS rfl <| qS rfl <| qS rfl <| qP rfl rfl rfl rfl <| qM rfl rfl rfl <| qM rfl rfl rfl <| qM rfl rfl rfl <| qO rfl <| op_strcmp rfl rfl rfl rfl <| qP rfl rfl rfl rfl <| qA rfl rfl rfl <| qN <| mwp_ret ?_
  exact ret_tmp (.inr rfl) Try.results40 rfl (.of_eq (by first | (simp; done) | (simp_all; done))) (.bool _) ⟨rfl, rfl⟩
theorem search_spec (l : List Bs) (t : Bs) (hu : Up l) (hl : l.length ≤ 100000) (S : MS) : MCalls Try.prog 31 [.lst none 1 (l.map encX), encX t] S fun v σ' => v = .tup [.int .i64 ((lowB t l : Nat) : Int), .bool (decide (t ∈ l))] ∧ σ' = S := by
 refine mcalls_body Try.func31 rfl Try.ntmps31 (Nat.le_of_ble_eq_true rfl) ?_
 refine mwp_seq <| qR rfl <| qA rfl rfl rfl <| qA rfl rfl rfl <| qN <| mwp_seq <| qR rfl <| qM rfl rfl rfl <| qE rfl rfl Try.underlying34 rfl <| qA rfl rfl rfl <| qN <| mwp_seq <| qR rfl <| qM rfl rfl rfl <| qA rfl rfl rfl <| qA rfl rfl rfl <| qN <| mwp_seq <| mwp_block ?_
 refine mwp_loopK (α := Nat × Nat) [(0, _), (1, _), (6, _)] (fun x => [(7, .int .i64 (x.1 : Int)), (8, .int .i64 (x.2 : Int))]) (fun x => []) (fun x => x.1 ≤ lowB t l ∧ lowB t l ≤ x.2 ∧ x.2 ≤ l.length) (fun x => x.2 - x.1) (⟨0, l.length⟩) (.keep rfl (.keep rfl (.keep rfl (.nil)))) (.keep rfl (.eq rfl (by rw [List.length_map]) (.nil))) (⟨by simp, low_le t l, Nat.le_refl _⟩) (rfl) ?_
 rintro ⟨i, j⟩ ⟨hi, hj, hjl⟩
 dsimp only at hi hj hjl ⊢
 refine mwp_seq <| mwp_seq <| qR rfl <| qM rfl rfl rfl <| qM rfl rfl rfl <| qC rfl rfl rfl rfl rfl <| qN ?_
 refine mwp_cond_split rfl (fun h15 => ?_) (fun h15 => ?_)
 ·
  have hij : i < j := by simpa using h15
  obtain ⟨y, hs⟩ : ∃ q, l[(i + j) / 2]? = some q := ⟨_, List.getElem?_eq_getElem (by omega)⟩
  refine mwp_skip <| mwp_block <| mwp_seq <| qR rfl <| qM rfl rfl rfl <| qM rfl rfl rfl <| qO rfl <| op_arith rfl rfl rfl (wadd (a := i) (b := j) rfl (by omega)) ?_
  refine qO rfl <| op_convInt rfl Try.underlying3 Try.underlying46 rfl (u64_nat (show i + j < _ by omega)) ?_
  refine qO rfl <| op_shr rfl rfl rfl (by omega) (shr1_u64) ?_
  refine qO rfl <| op_convInt rfl Try.underlying46 Try.underlying3 rfl (i64_nat (show (i + j) / 2 < _ by omega)) ?_
  refine qA rfl rfl rfl <| qN <| mwp_seq <| qR rfl <| qM rfl rfl rfl <| qM rfl rfl rfl <| qO rfl <| op_indexAddr rfl Try.underlying34 sz9 (by decide) rfl rfl rfl (get_map hs) ?_
  refine qO rfl <| op_load_sptr rfl rfl ta9 rfl <| qM rfl rfl rfl ?_
  refine wOps_op rfl (op_call rfl rfl rfl co40 ((lessS_spec y t _).mono ?_))
  rintro _ _ ⟨rfl, rfl⟩
  refine qN ?_
  refine mwp_cond_split rfl (fun h27 => ?_) (fun h27 => ?_)
  ·
   have hlt : (i + j) / 2 < lowB t l := (low_lt hu hs).1 h27
   refine qR rfl <| qM rfl rfl rfl <| qO rfl <| op_arith rfl rfl rfl (wadd (a := (i + j) / 2) (b := 1) rfl (by omega)) ?_
   refine qA rfl rfl rfl <| qN ?_
   refine ⟨⟨(i + j) / 2 + 1, j⟩, by dsimp only; omega, ⟨by dsimp only; omega, hj, hjl⟩, rfl, (.keep rfl (.keep rfl (.keep rfl (.nil)))), (.eq rfl (rfl) (.keep rfl (.nil)))⟩
  ·
   have hlt : ¬ (i + j) / 2 < lowB t l := fun hh => by have := (low_lt hu hs).2 hh; rw [this] at h27; cases h27
   refine qR rfl <| qM rfl rfl rfl <| qA rfl rfl rfl <| qN ?_
   refine ⟨⟨i, (i + j) / 2⟩, by dsimp only; omega, ⟨hi, by dsimp only; omega, by dsimp only; omega⟩, rfl, (.keep rfl (.keep rfl (.keep rfl (.nil)))), (.keep rfl (.eq rfl (rfl) (.nil)))⟩
 ·
  have hij : ¬ i < j := by simpa using h15
  have hii : i = lowB t l := by omega
  have hjj : j = lowB t l := by omega
  subst hii
  refine mwp_exit <| mwp_seq <| qR rfl <| qM rfl rfl rfl <| qM rfl rfl rfl <| qM rfl rfl rfl <| qC rfl rfl rfl rfl rfl <| qM rfl rfl rfl ?_
  refine wOps_case (fun h35 => ?_) (fun h35 => ?_)
  ·
   obtain ⟨z, hs2⟩ : ∃ q, l[lowB t l]? = some q := ⟨_, List.getElem?_eq_getElem (by simp at h35; omega)⟩
   refine qM rfl rfl rfl <| qM rfl rfl rfl <| qO rfl <| op_indexAddr rfl Try.underlying34 sz9 (by decide) rfl rfl rfl (get_map hs2) ?_
   refine qO rfl <| op_load_sptr rfl rfl ta9 rfl <| qM rfl rfl rfl <| qO rfl <| op_strcmp rfl rfl rfl rfl <| qM rfl rfl rfl ?_
   refine wOps_case (fun h42 => ?_) (fun h42 => ?_)
   ·
    have hfin : true = decide (t ∈ l) := by
     symm
     rw [decide_eq_true_iff, low_mem hu, hs2]
     simpa using h42
    refine qS rfl <| qS rfl <| qS rfl <| qS rfl <| qS rfl <| qS rfl <| qS rfl <| qS rfl <| qS rfl <| qP rfl rfl rfl rfl <| qP rfl rfl rfl rfl <| qA rfl rfl rfl <| qA rfl rfl rfl <| qN <| mwp_ret ?_
    first | exact ret_tmp2 (.inr rfl) Try.results31 rfl rfl (.refl _) (.of_eq (congrArg MV.bool hfin)) (.int _ _) (.bool _) ⟨rfl, rfl⟩ | exact absurd h48 (by decide)
   ·
    have hfin : false = decide (t ∈ l) := by
     symm
     rw [decide_eq_false_iff_not, low_mem hu, hs2]
     simpa using h42
    refine qM rfl rfl rfl <| qM rfl rfl rfl <| qO rfl <| op_indexAddr rfl Try.underlying34 sz9 (by decide) rfl rfl rfl (get_map hs2) ?_
    refine qO rfl <| op_load_sptr rfl rfl ta9 rfl ?_
    refine wOps_op rfl (op_call rfl rfl rfl co45 ((isNaNx_spec _ _).mono ?_))
    rintro _ _ ⟨rfl, rfl⟩
    refine qM rfl rfl rfl <| qS rfl <| qS rfl <| qP rfl rfl rfl rfl <| qP rfl rfl rfl rfl <| qP rfl rfl rfl rfl <| qA rfl rfl rfl <| qA rfl rfl rfl <| qN <| mwp_ret ?_
    first | exact ret_tmp2 (.inr rfl) Try.results31 rfl rfl (.refl _) (.of_eq (congrArg MV.bool hfin)) (.int _ _) (.bool _) ⟨rfl, rfl⟩ | exact absurd h48 (by decide)
  ·
   have hfin : false = decide (t ∈ l) := by
    symm
    rw [decide_eq_false_iff_not, low_mem hu]
    intro hh
    have := (List.getElem?_eq_some_iff.1 hh).1
    simp at h35
    omega
   refine qS rfl <| qS rfl <| qS rfl <| qS rfl <| qS rfl <| qS rfl <| qS rfl <| qS rfl <| qS rfl <| qS rfl <| qS rfl <| qS rfl <| qS rfl <| qS rfl <| qS rfl <| qS rfl <| qS rfl <| qP rfl rfl rfl rfl <| qA rfl rfl rfl <| qA rfl rfl rfl <| qN <| mwp_ret ?_
   first | exact ret_tmp2 (.inr rfl) Try.results31 rfl rfl (.refl _) (.of_eq (congrArg MV.bool hfin)) (.int _ _) (.bool _) ⟨rfl, rfl⟩ | exact absurd h48 (by decide)
end Go.Proofs.Ytmleelfaijafiaa
end
section
set_option linter.unusedVariables false
set_option linter.unusedSimpArgs false
set_option maxRecDepth 20000
set_option maxHeartbeats 400000
namespace Go.Proofs.Ytmleelfaijafiaa
open Go Go.MV
theorem woL_cl {t d ty n : Nat} {xs a b : List Bs} {s : Bs} {o : MObj} (ht : t < d) (ho : o ∈ [MObj.cells [encX s], .cells [.lst (some t) 1 (xs.map encX)], .cells [.lst none 1 (a.map encX)], .cells [.lst none 1 (b.map encX)], .row ty 1 n]) : o.cl d := by
 simp only [List.mem_cons, List.not_mem_nil, or_false] at ho
 rcases ho with rfl | rfl | rfl | rfl | rfl
 ·intro x hx
  simp at hx
  subst hx
  exact cl_encX _ _
 ·intro x hx
  simp at hx
  subst hx
  exact cl_lstT ht (cl_encX _) encX_one
 ·intro x hx
  simp at hx
  subst hx
  exact cl_texts _ _
 ·intro x hx
  simp at hx
  subst hx
  exact cl_texts _ _
 ·exact trivial
theorem wiL_cl {d : Nat} {a b : List Bs} {q : Bool} {o : MObj} (ho : o ∈ [MObj.cells [.lst none 1 (b.map encX)], .cells [.bool q], .cells [.lst none 1 (a.map encX)]]) : o.cl d := by
 simp only [List.mem_cons, List.not_mem_nil, or_false] at ho
 rcases ho with rfl | rfl | rfl
 ·intro x hx
  simp at hx
  subst hx
  exact cl_texts _ _
 ·intro x hx
  simp at hx
  subst hx
  exact .bool _
 ·intro x hx
  simp at hx
  subst hx
  exact cl_texts _ _
theorem rowAt_spec (l : List Bs) (t : Bs) (hu : Up l) (hl : l.length ≤ 100000) (S : MS) : MCalls Try.prog 25 [.lst none 1 (l.map encX), encX t] S fun v σ' => v = .tup [.int .i64 ((lowB t l : Nat) : Int), .bool (decide (t ∈ l))] ∧ σ' = S := by
 refine mcalls_body Try.func25 rfl Try.ntmps25 (Nat.le_of_ble_eq_true rfl) ?_
 refine mwp_seq <| qR rfl <| qA rfl rfl rfl <| qA rfl rfl rfl <| qN <| mwp_seq <| qR rfl <| qM rfl rfl rfl <| qM rfl rfl rfl ?_
 refine wOps_op rfl (op_call rfl rfl rfl co31 ((search_spec l t hu hl _).mono ?_))
 rintro _ _ ⟨rfl, rfl⟩
 refine qO rfl <| op_extract rfl rfl rfl <| qO rfl <| op_extract rfl rfl rfl <| qA rfl rfl rfl <| qA rfl rfl rfl <| qN <| mwp_ret ?_
 exact ret_tmp2 (.inr rfl) Try.results25 rfl rfl (.refl _) (.refl _) (.int _ _) (.bool _) ⟨rfl, rfl⟩
theorem rowsHas_spec (l : List Bs) (t : Bs) (hu : Up l) (hl : l.length ≤ 100000) (S : MS) : MCalls Try.prog 11 [.lst none 1 (l.map encX), encX t] S fun v σ' => v = .bool (decide (t ∈ l)) ∧ σ' = S := by
 refine mcalls_body Try.func11 rfl Try.ntmps11 (Nat.le_of_ble_eq_true rfl) ?_
 refine mwp_seq <| qR rfl <| qA rfl rfl rfl <| qN <| mwp_seq <| qR rfl <| qM rfl rfl rfl <| qM rfl rfl rfl ?_
 refine wOps_op rfl (op_call rfl rfl rfl co25 ((rowAt_spec l t hu hl _).mono ?_))
 rintro _ _ ⟨rfl, rfl⟩
 refine qM rfl rfl rfl <| qO rfl <| op_extract rfl rfl rfl <| qO rfl <| op_extract rfl rfl rfl <| qA rfl rfl rfl <| qA rfl rfl rfl <| qN <| mwp_seq <| qR rfl <| qM rfl rfl rfl <| qA rfl rfl rfl <| qN <| mwp_ret ?_
 exact ret_tmp (.inr rfl) Try.results11 rfl (.of_eq (rfl)) (.bool _) ⟨rfl, rfl⟩
theorem rowsWith_spec (l : List Bs) (t : Bs) (hl : l.length ≤ 100000) (S : MS) : MCalls Try.prog 13 [.lst none 1 (l.map encX), encX t] S fun v σ' => v = .lst none 1 ((bothX l [t]).map encX) ∧ σ' = S := by
 refine mcalls_body Try.func13 rfl Try.ntmps13 (Nat.le_of_ble_eq_true rfl) ?_
 refine mwp_seq <| qR rfl <| qA rfl rfl rfl <| qN <| mwp_seq <| qR rfl <| qM rfl rfl rfl <| qM rfl rfl rfl <| qO rfl <| op_buildSlice rfl Try.underlying22 el9 rfl rfl (by decide) (by decide) rfl rfl ?_
 refine wOps_op rfl (op_call rfl rfl rfl co17 ((rowsBoth_spec l [t] (by simp; omega) _).mono ?_))
 rintro _ _ ⟨rfl, rfl⟩
 refine qA rfl rfl rfl <| qN <| mwp_ret ?_
 exact ret_tmp (.inr rfl) Try.results13 rfl (.refl _) (cl_texts _ _) ⟨rfl, rfl⟩
theorem rowsWithout_spec (l : List Bs) (s : Bs) (hl : l.length ≤ 100000) (S : MS) : MCalls Try.prog 15 [.lst none 1 (l.map encX), encX s] S fun v σ' => v = .lst none 1 ((woT s l).map encX) ∧ σ' = S := by
 refine mcalls_body Try.func15 rfl Try.ntmps15 (Nat.le_of_ble_eq_true rfl) ?_
 have hwi := with_iter l [] (by simp; omega) (S ++ [MObj.cells [encX s], MObj.cells [.lst0]]).length ((S ++ [MObj.cells [encX s], MObj.cells [.lst0]]).length + 1) (S.length + 6)
 rw [both_nil] at hwi
 refine mwp_seq <| qR rfl <| qB rfl rfl rfl rfl rfl <| qA rfl rfl rfl <| qN <| mwp_seq <| qR rfl <| qO rfl <| op_alloc' rfl zm22 rfl rfl <| qN <| mwp_seq <| mwp_seq <| qR rfl <| qM rfl rfl rfl ?_
 refine wOps_op rfl (op_call rfl rfl rfl co26 (((with_spec l [] _).sub (.cons (.refl _) (.cons (.nil 1) .nil))).mono ?_))
 rintro _ _ ⟨rfl, rfl⟩
 rw [List.append_assoc S]
 refine qN <| mwp_block <| mwp_cellrow 1 9 1 rfl (Nat.le_refl _) rfl rfl ?_
 refine mwp_rangeB (ok := (fun σ => σ.length = S.length + 6 ∧ σ[(S ++ [MObj.cells [encX s], MObj.cells [.lst0]]).length]? = some (.cells [.lst none 1 (l.map encX)]) ∧ σ[(S ++ [MObj.cells [encX s], MObj.cells [.lst0]]).length + 1]? = some (.cells [.lst none 1 (([] : List Bs).map encX)]))) (ys := l.map fun x => [encX x]) .ret (.inl rfl) (fun j => true) (fun j => ([.cells [encX s], .cells [.lst (some (S.length + 4)) 1 ((woT s (l.take j)).map encX)], .cells [.lst none 1 (l.map encX)], .cells [.lst none 1 (([] : List Bs).map encX)], .row 9 1 (woT s (l.take j)).length] : MS)) (fun j => ([.cells [encX s], .cells [.lst (some (S.length + 4)) 1 ((woT s (l.take j)).map encX)], .cells [.lst none 1 (l.map encX)], .cells [.lst none 1 (([] : List Bs).map encX)], .row 9 1 (woT s (l.take j)).length] : MS)) (fun j => rfl) (fun j => rfl) rfl (fun j o ho n hn => woL_cl (by simp at hn; omega) ho) (fun j o ho n hn => woL_cl (by simp at hn; omega) ho) rfl co32 rfl (by simp) (hwi.weak fun σ h => h.1) (fun j => ⟨by simp only [List.length_append, List.length_cons, List.length_nil], get_s3, get_s4⟩) (fun j s q => ⟨by simp only [List.length_append, List.length_cons, List.length_nil], get_s3, get_s4⟩) rfl (fun y hy => by obtain ⟨i, _, rfl⟩ := List.mem_map.1 hy; rfl) ?_ ?_ ?_
 ·
  intro j y hy hbef L'
  rw [List.getElem?_map] at hy
  obtain ⟨x, hp, rfl⟩ := Option.map_eq_some_iff.1 hy
  have hjl := (List.getElem?_eq_some_iff.1 hp).1
  have htl := wo_len s (l.take j)
  rw [List.length_take] at htl
  refine qR rfl <| qA rfl rfl rfl <| qN ?_
  refine ⟨rfl, [], by rw [List.append_nil], ?_⟩
  rw [List.append_nil]
  refine mwp_block <| mwp_seq <| qR rfl <| qM rfl rfl rfl <| qO rfl <| op_load_mid (m := encX s) rfl rfl rfl ta9 rfl <| qO rfl <| op_strcmp rfl rfl rfl rfl <| qN ?_
  refine mwp_cond_split rfl (fun h12 => ?_) (fun h12 => ?_)
  ·
   have hne : ¬ x = s := by simpa using h12
   refine qR rfl <| qO rfl <| op_load_mid rfl rfl rfl ta22 rfl <| qM rfl rfl rfl <| qO rfl <| op_buildSlice rfl Try.underlying22 el9 rfl rfl (by decide) (by decide) rfl rfl ?_
   refine qO rfl <| op_append_mid rfl Try.underlying22 el9 rfl rfl rfl (by simp) (by simp only [List.length_map, List.length_cons, List.length_nil]; omega) (by simp only [List.length_map, List.length_cons, List.length_nil]; omega) rfl ?_
   refine qO rfl <| op_store_mid rfl rfl rfl rfl sz22 rfl rfl (Nat.le_of_ble_eq_true rfl) rfl <| qN ?_
   refine .inl ⟨rfl, rfl, [], ?_⟩
   rw [List.append_nil]
   first | (rw [wo_no hp heq]; done) | rw [wo_yes hp hne, List.map_append, len_snoc (l := woT s (l.take j)) (x := x)]; rfl
  ·
   have heq : x = s := by simpa using h12
   refine mwp_skip ?_
   refine .inl ⟨rfl, rfl, [], ?_⟩
   rw [List.append_nil]
   first | (rw [wo_no hp heq]; done) | rw [wo_yes hp hne, List.map_append, len_snoc (l := woT s (l.take j)) (x := x)]; rfl
 ·
  intro _
  rw [List.append_assoc S]
  rw [List.length_map]
  refine mwp_seq <| qR rfl <| qL rfl rfl rfl rfl ta22 rfl <| qA rfl rfl rfl <| qN <| mwp_ret ?_
  exact ret_tmp (.inr rfl) Try.results15 rfl (Sub.trans (.view _ _ _) (.of_eq (by rw [List.take_length]))) (cl_texts _ _) ⟨rfl, rfl⟩
 ·
  intro j y hy hp
  cases hp
end Go.Proofs.Ytmleelfaijafiaa
end
section
set_option linter.unusedVariables false
set_option linter.unusedSimpArgs false
namespace Go.Proofs.Ytmleelfaijafiaa
open Go Go.MV Go.RowKit
theorem ltB_lt : ∀ a b : Bs, ltB a b ↔ a < b
  | [], [] => by simp [ltB, Op.bytesLess]
  | [], y :: b => by simp [ltB, Op.bytesLess]
  | x :: a, [] => by simp [ltB, Op.bytesLess]
  | x :: a, y :: b => by rw [ltB_cons, List.cons_lt_cons_iff, ltB_lt a b]
theorem compact_get {zs : List Bs} {z : Bs} (h : z ∈ Lib.compact zs) : z ∈ zs := by
  unfold Lib.compact Lib.compactUpTo at h
  obtain ⟨j, hj, rfl⟩ := List.mem_map.1 h
  have hj := List.mem_range.1 (List.mem_filter.1 hj).1
  simp [hj]
theorem compact_of {zs : List Bs} : ∀ (i : Nat) (hi : i < zs.length), zs[i] ∈ Lib.compact zs := by
  intro i
  induction i with
  | zero =>
    intro hi
    unfold Lib.compact Lib.compactUpTo
    exact List.mem_map.2 ⟨0, List.mem_filter.2 ⟨List.mem_range.2 hi, by simp [Lib.keeps]⟩, by simp [hi]⟩
  | succ i ih =>
    intro hi
    by_cases e : zs[i + 1] = zs[i]
    · rw [e]; exact ih (by omega)
    · unfold Lib.compact Lib.compactUpTo
      refine List.mem_map.2 ⟨i + 1, List.mem_filter.2 ⟨List.mem_range.2 hi, ?_⟩, by simp [hi]⟩
      have h1 : i < zs.length := by omega
      simp [Lib.keeps, hi, h1]
      exact e
theorem mem_compact {zs : List Bs} {z : Bs} : z ∈ Lib.compact zs ↔ z ∈ zs := by
  refine ⟨compact_get, fun h => ?_⟩
  obtain ⟨i, hi, rfl⟩ := List.mem_iff_getElem.1 h
  exact compact_of i hi
theorem up_compact {zs : List Bs} (h : zs.Pairwise fun a b => ¬ ltB b a) : Up (Lib.compact zs) := by
  unfold Up Lib.compact Lib.compactUpTo
  rw [List.pairwise_map]
  have h0 : ((List.range zs.length).filter (Lib.keeps zs.toArray)).Pairwise fun a b => a < b ∧ b < zs.length ∧ Lib.keeps zs.toArray b = true := by
    refine ((List.pairwise_lt_range (n := zs.length)).filter _).imp_of_mem fun {a b} ha hb hab => ?_
    exact ⟨hab, List.mem_range.1 (List.mem_filter.1 hb).1, (List.mem_filter.1 hb).2⟩
  refine h0.imp fun {a b} hh => ?_
  obtain ⟨hab, hb, hk⟩ := hh
  have hb1 : b - 1 < zs.length := by omega
  have ha : a < zs.length := by omega
  have hne : ¬ zs[b] = zs[b - 1] := by
    simp [Lib.keeps, hb, hb1] at hk
    rcases hk with rfl | hk
    · omega
    · exact hk
  have e1 : zs.toArray[a]! = zs[a] := by simp [ha]
  have e2 : zs.toArray[b]! = zs[b] := by simp [hb]
  rw [e1, e2]
  have p1 : ¬ ltB zs[b] zs[b - 1] := List.pairwise_iff_getElem.1 h (b - 1) b hb1 hb (by omega)
  have lt1 : ltB zs[b - 1] zs[b] := by
    rcases ltB_total zs[b - 1] zs[b] with q | q | q
    · exact q
    · exact absurd q.symm hne
    · exact absurd q p1
  rcases Nat.lt_or_eq_of_le (show a ≤ b - 1 by omega) with hlt | heq
  · have p2 : ¬ ltB zs[b - 1] zs[a] := List.pairwise_iff_getElem.1 h a (b - 1) ha hb1 hlt
    rcases ltB_total zs[a] zs[b - 1] with q | q | q
    · exact ltB_trans q lt1
    · rw [q]; exact lt1
    · exact absurd q p2
  · subst heq; exact lt1
theorem up_srt (l : List Bs) : Up (srtF l) := by
  unfold srtF
  refine up_compact ?_
  have h := List.pairwise_mergeSort (le := fun x y : Bs => decide (x ≤ y)) (fun a b c h1 h2 => by simp at h1 h2 ⊢; exact List.le_trans h1 h2) (fun a b => by simp; exact List.le_total a b) l
  refine h.imp fun {a b} hab => ?_
  rw [ltB_lt]
  simp at hab
  exact List.not_lt.2 hab
theorem srt_sort (l : List Bs) : srtF l = sortT l := up_ext (up_srt l) (up_sort l) fun z => by
  unfold srtF sortT
  rw [mem_compact, List.mem_mergeSort, mem_putAll]
  simp
theorem up_single (s : Bs) : Up [s] := List.pairwise_singleton ..
theorem both_comm {a b : List Bs} (ha : Up a) (hb : Up b) : bothX a b = bothX b a := up_ext (up_both a b ha hb) (up_both b a hb ha) fun z => by rw [mem_both, mem_both]; exact Or.comm
theorem both_assoc {a b c : List Bs} (ha : Up a) (hb : Up b) (hc : Up c) : bothX (bothX a b) c = bothX a (bothX b c) := up_ext (up_both _ _ (up_both a b ha hb) hc) (up_both _ _ ha (up_both b c hb hc)) fun z => by rw [mem_both, mem_both, mem_both, mem_both]; exact or_assoc
theorem both_idem {a : List Bs} (ha : Up a) : bothX a a = a := up_ext (up_both a a ha ha) ha fun z => by rw [mem_both]; exact or_self_iff
theorem both_sub {a b : List Bs} (ha : Up a) (hb : Up b) : (∀ y ∈ a, y ∈ b) ↔ bothX a b = b := by
  constructor
  · exact fun h => up_ext (up_both a b ha hb) hb fun z => by
      rw [mem_both]
      exact ⟨fun h2 => h2.elim (h z) id, .inr⟩
  · intro h y hy
    rw [← h, mem_both]
    exact .inl hy
end Go.Proofs.Ytmleelfaijafiaa
end
section
set_option linter.unusedVariables false
set_option linter.unusedSimpArgs false
set_option maxRecDepth 20000
set_option maxHeartbeats 400000
namespace Go.Proofs.Ytmleelfaijafiaa
open Go Go.MV
theorem valuesT_iter (l : List Bs) (hlen : l.length ≤ maxLen) (bid l0 : Nat) : IterOk Try.prog 33 [] [.ref bid 0] (l.map fun x => [encX x]) (fun σ => σ.length = l0 ∧ σ[bid]? = some (.cells [.lst none 1 (l.map encX)])) := by
 refine iterOk_of fun id T m hok hm hyt hyf => ?_
 have hml : (l.map fun x => [encX x]).length = l.length := List.length_map ..
 refine mcalls_body Try.func33 rfl Try.ntmps33 (Nat.le_of_ble_eq_true rfl) ?_
 rw [List.append_nil]
 show mwp _ _ _ _ _ _ _ (([] : MS) ++ T 0)
 refine mwp_seq <| qR rfl <| qO rfl <| op_load_ref rfl rfl (hok _).2 ta22 rfl <| qE rfl rfl Try.underlying22 rfl <| qM rfl rfl rfl <| qN <| mwp_block ?_
 refine mwp_loopK (α := Nat) [(0, _), (5, _), (6, _)] (fun j => [(7, .int .i64 (j : Int))]) (fun j => T j) (fun j => j ≤ m) (fun j => m + 1 - j) (0) (.keep rfl (.keep rfl (.keep rfl (.nil)))) (.keep rfl (.nil)) (by omega) (rfl) ?_
 rintro j hj
 refine mwp_seq <| qR rfl <| qC rfl rfl rfl rfl rfl <| qN <| mwp_seq ?_
 refine mwp_cond_split rfl (fun h8 => ?_) (fun h8 => ?_)
 ·
  have hlt : j < l.length := by rw [List.length_map] at h8; simpa using h8
  obtain ⟨x, hs⟩ : ∃ a, l[j]? = some a := ⟨_, List.getElem?_eq_getElem hlt⟩
  have hy : (l.map fun x => [encX x])[j]? = some [encX x] := by rw [List.getElem?_map, hs]; rfl
  refine mwp_skip <| mwp_seq <| mwp_block <| mwp_seq <| qR rfl <| qO rfl <| op_indexAddr rfl Try.underlying22 sz9 (by decide) rfl rfl rfl (get_map hs) ?_
  refine qO rfl <| op_load_sptr rfl rfl ta9 rfl <| qA rfl rfl rfl <| qN <| mwp_seq ?_
  rcases Nat.lt_or_eq_of_le hj with hjm | hjm
  ·
   refine qR rfl <| qM rfl rfl rfl <| qM rfl rfl rfl <| qO rfl <| ((hyt j _ hjm hy).at0 rfl rfl rfl).mono ?_
   rintro _ _ ⟨rfl, rfl⟩
   refine qO rfl <| op_not rfl rfl <| qN <| mwp_cond_f rfl (rfl) <| mwp_skip <| qR rfl <| qO rfl <| op_arith rfl rfl rfl rfl <| qM rfl rfl rfl <| qN ?_
   refine ⟨j + 1, by omega, by omega, rfl, (.keep rfl (.keep rfl (.keep rfl (.nil)))), (.eq rfl (int_succ hlt hlen) (.nil))⟩
  ·
   refine qR rfl <| qM rfl rfl rfl <| qM rfl rfl rfl <| qO rfl <| ((hyf j _ hjm hy).at0 rfl rfl rfl).mono ?_
   rintro _ _ ⟨rfl, rfl⟩
   refine qO rfl <| op_not rfl rfl <| qN <| mwp_cond_t rfl (rfl) ?_
   refine mwp_facts fun hcv hcl => ?_
   refine mwp_ret ?_
   exact ret_noneT (S' := T (j + 1)) (by simp) Try.results33 (by rw [(hok _).1, (hok _).1]; exact Nat.le_refl _) hcl ⟨rfl, by rw [hjm, if_pos (by omega)]⟩
 ·
  have hge : l.length ≤ j := by rw [List.length_map] at h8; simp at h8; omega
  have hjm : j = m := by omega
  refine mwp_facts fun hcv hcl => ?_
  refine mwp_exit ?_
  exact ret_noneT (S' := T j) (by simp) Try.results33 (by rw [(hok _).1, (hok _).1]; exact Nat.le_refl _) hcl ⟨rfl, by rw [hjm, if_neg (by omega)]⟩
theorem valuesT_spec (l : List Bs) (S : MS) : MCalls Try.prog 27 [.lst none 1 (l.map encX)] S fun v σ' => v = .fn (.func 33) [] [.ref S.length 0] ∧ σ' = S ++ [.cells [.lst none 1 (l.map encX)]] := by
 refine mcalls_body Try.func27 rfl Try.ntmps27 (Nat.le_of_ble_eq_true rfl) ?_
 refine mwp_seq <| qR rfl <| qB rfl rfl rfl rfl rfl <| qA rfl rfl rfl <| qN <| mwp_seq <| qR rfl <| qO rfl <| op_makeFunc rfl rfl rfl <| qA rfl rfl rfl <| qN ?_
 refine mwp_facts fun hcv hcl => ?_
 refine mwp_ret ?_
 exact ret_tmpT (.inr rfl) Try.results27 rfl (.refl _) (hcv 2 _ rfl) (by simp) hcl ⟨rfl, rfl⟩
theorem rowsWithin_spec (a b : List Bs) (hu : Up b) (hb : b.length ≤ 100000) (S : MS) : MCalls Try.prog 19 [.lst none 1 (a.map encX), .lst none 1 (b.map encX)] S fun v σ' => v = .bool (decide (∀ y ∈ a, y ∈ b)) ∧ σ' = S := by
 refine mcalls_body Try.func19 rfl Try.ntmps19 (Nat.le_of_ble_eq_true rfl) ?_
 refine mwp_len (t := 0) rfl fun hlen => ?_
 rw [List.length_map] at hlen
 refine mwp_seq <| qR rfl <| qB rfl rfl rfl rfl rfl <| qO rfl <| op_alloc' rfl zm4 rfl rfl <| qN <| mwp_seq <| mwp_seq <| qR rfl <| qM rfl rfl rfl ?_
 refine wOps_op rfl (op_call rfl rfl rfl co27 ((valuesT_spec a _).mono ?_))
 rintro _ _ ⟨rfl, rfl⟩
 rw [List.append_assoc S]
 refine qN <| mwp_block ?_
 refine mwp_rangeB (ok := fun σ => σ.length = S.length + 4 ∧ σ[(S ++ [MObj.cells [.lst none 1 (b.map encX)], MObj.cells [.bool false]]).length]? = some (.cells [.lst none 1 (a.map encX)])) (ys := a.map fun x => [encX x]) .ret (.inl rfl) (fun j => decide (a.getD j [] ∈ b)) (fun j => ([.cells [.lst none 1 (b.map encX)], .cells [.bool false], .cells [.lst none 1 (a.map encX)]] : MS)) (fun j => ([.cells [.lst none 1 (b.map encX)], .cells [.bool false], .cells [.lst none 1 (a.map encX)]] : MS)) (fun j => rfl) (fun j => rfl) rfl (fun j o ho n hn => wiL_cl ho) (fun j o ho n hn => wiL_cl ho) rfl co33 rfl (by simp) ((valuesT_iter a hlen _ _).weak fun σ h => h.1) (fun j => ⟨by simp only [List.length_append, List.length_cons, List.length_nil], get_box2⟩) (fun j s q => ⟨by simp only [List.length_append, List.length_cons, List.length_nil], get_box2⟩) rfl (fun y hy => by obtain ⟨i, _, rfl⟩ := List.mem_map.1 hy; rfl) ?_ ?_ ?_
 ·
  intro j y hy hbef L'
  rw [List.getElem?_map] at hy
  obtain ⟨x, hp, rfl⟩ := Option.map_eq_some_iff.1 hy
  have hjl := (List.getElem?_eq_some_iff.1 hp).1
  have hgx : a.getD j [] = x := by simp [hp]
  rw [hgx]
  refine qR rfl <| qA rfl rfl rfl <| qN ?_
  refine ⟨rfl, [], by rw [List.append_nil], ?_⟩
  rw [List.append_nil]
  refine mwp_block <| mwp_seq <| qR rfl <| qO rfl <| op_load_mid rfl rfl rfl ta22 rfl <| qM rfl rfl rfl ?_
  refine wOps_op rfl (op_call rfl rfl rfl co11 ((rowsHas_spec b x hu hb _).mono ?_))
  rintro _ _ ⟨rfl, rfl⟩
  refine qO rfl <| op_not rfl rfl <| qN ?_
  refine mwp_cond_split rfl (fun h12 => ?_) (fun h12 => ?_)
  ·
   refine mwp_seq <| qR rfl <| qO rfl <| op_store_mid rfl rfl rfl rfl sz4 rfl rfl (Nat.le_of_ble_eq_true rfl) rfl <| qN <| mwp_ret ?_
   exact .inr ⟨by simpa using h12, rfl, [], by rw [List.append_nil]; rfl⟩
  ·
   refine mwp_skip ?_
   exact .inl ⟨by simpa using h12, rfl, [], by rw [List.append_nil]⟩
 ·
  intro hall
  rw [List.append_assoc S]
  have hr : (decide (∀ y ∈ a, y ∈ b)) = true := decide_eq_true fun y hy => by
   obtain ⟨j, hj⟩ := List.getElem?_of_mem hy
   have hjl := (List.getElem?_eq_some_iff.1 hj).1
   have := hall j (by rw [List.length_map]; exact hjl)
   rw [show a.getD j [] = y by simp [hj]] at this
   exact of_decide_eq_true this
  refine mwp_seq <| qR rfl <| qO rfl <| op_store' rfl rfl rfl rfl sz4 rfl rfl (Nat.le_of_ble_eq_true rfl) rfl <| qN <| mwp_ret ?_
  exact ret_cell (.inr rfl) Try.results19 rfl rfl ta4 rfl (.refl _) (.bool _) ⟨by rw [hr], rfl⟩
 ·
  intro j y hy hp
  have hr : (decide (∀ y ∈ a, y ∈ b)) = false := decide_eq_false fun hh => by
   have hjl := (List.getElem?_eq_some_iff.1 hy).1
   rw [List.length_map] at hjl
   have hm := hh (a.getD j []) (by simp [hjl])
   rw [decide_eq_true hm] at hp
   cases hp
  rw [List.append_assoc S]
  exact ret_cell (.inr rfl) Try.results19 rfl rfl ta4 rfl (.refl _) (.bool _) ⟨by rw [hr], rfl⟩
end Go.Proofs.Ytmleelfaijafiaa
end
section
set_option linter.unusedVariables false
set_option linter.unusedSimpArgs false
set_option maxRecDepth 20000
set_option maxHeartbeats 400000
namespace Go.Proofs.Ytmleelfaijafiaa
open Go Go.MV
theorem tt_of {P : Program} {f : FuncId} {args : List MV} {σ : MS} {b c : Bool} (h : MCalls P f args σ fun v σ' => v = .bool b ∧ σ' = σ) (e : b = c) : MCalls P f args σ fun v σ' => v = .bool c ∧ σ' = σ := e ▸ h
theorem tx_of {P : Program} {f : FuncId} {args : List MV} {σ : MS} {a b : List Bs} (h : MCalls P f args σ fun v σ' => v = .lst none 1 (a.map encX) ∧ σ' = σ) (e : a = b) : MCalls P f args σ fun v σ' => v = .lst none 1 (b.map encX) ∧ σ' = σ := e ▸ h
theorem eqlI {a b : Int} (h : a = b) : intCmp .eql a b = some true := by simp [intCmp, h]
theorem op_booleqT {P : Program} {rd : Option Nat} {o : Oper} {env : Env} {K : MV → MS → Prop} {σ : MS} {t t' : TypeId} {x y : Operand} {a b : Bool} (ho : o.op = .binOp .eql t x y t') (hu : P.underlying t = some .bool) (hx : evo env x = some (.bool a)) (hy : evo env y = some (.bool b)) (hab : a = b) (h : K (.bool true) σ) : OpWp P rd o env σ K :=
 op_booleq ho hu hx hy (by rw [hab, beq_self_eq_true]; exact h)
theorem kn_l : srtF [[99], [97], [99]] = [[97], [99]] := by rw [srt_sort]; decide +kernel
theorem kn_up : Up [[97], [99]] := (rises_up _).1 (by decide +kernel)
theorem kn_w : bothX [[97], [99]] [[98]] = [[97], [98], [99]] := by rw [← both_put kn_up (up_single _)]; decide +kernel
theorem up_wo {s : Bs} {x : List Bs} (h : Up x) : Up (woT s x) := h.filter _
theorem not_wo (s : Bs) (x : List Bs) : ¬ s ∈ woT s x := fun h => by
 have := (List.mem_filter.1 h).2
 simp at this
theorem knownR_spec (S : MS) : MCalls Try.prog 5 [] S fun v σ' => v = .bool true ∧ σ' = S := by
 refine mcalls_body Try.func5 rfl Try.ntmps5 (Nat.le_of_ble_eq_true rfl) ?_
 refine mwp_seq <| qR rfl <| qA rfl rfl rfl <| qN <| mwp_seq <| qR rfl <| qO rfl <| op_buildSlice rfl Try.underlying22 el9 rfl rfl (by decide) (by decide) rfl rfl ?_
 refine wOps_op rfl (op_call rfl rfl rfl co9 ((tx_of (rowsSort_spec [[99], [97], [99]] (by decide) _) kn_l).mono ?_))
 rintro _ _ ⟨rfl, rfl⟩
 refine qA rfl rfl rfl <| qN <| mwp_seq <| qR rfl <| qM rfl rfl rfl <| qO rfl <| op_buildSlice rfl Try.underlying22 el9 rfl rfl (by decide) (by decide) rfl rfl ?_
 refine wOps_op rfl (op_call rfl rfl rfl co8 ((tt_of (c := true) (xSame_spec [[97], [99]] [[97], [99]] _) (decide_eq_true rfl)).mono ?_))
 rintro _ _ ⟨rfl, rfl⟩
 refine qM rfl rfl rfl <| qM rfl rfl rfl ?_
 refine wOps_op rfl (op_call rfl rfl rfl co6 ((tt_of (c := true) (rowsIs_spec [[97], [99]] _) (by decide +kernel)).mono ?_))
 rintro _ _ ⟨rfl, rfl⟩
 refine qP rfl rfl rfl rfl <| qM rfl rfl rfl <| qO rfl <| op_buildSlice rfl Try.underlying22 el9 rfl rfl (by decide) (by decide) rfl rfl ?_
 refine wOps_op rfl (op_call rfl rfl rfl co6 ((tt_of (c := false) (rowsIs_spec [[97], [97]] _) (by decide +kernel)).mono ?_))
 rintro _ _ ⟨rfl, rfl⟩
 refine qO rfl <| op_not rfl rfl <| qP rfl rfl rfl rfl <| qM rfl rfl rfl <| qM rfl rfl rfl ?_
 refine wOps_op rfl (op_call rfl rfl rfl co11 ((tt_of (c := true) (rowsHas_spec [[97], [99]] [99] kn_up (by decide) _) (by decide +kernel)).mono ?_))
 rintro _ _ ⟨rfl, rfl⟩
 refine qP rfl rfl rfl rfl <| qM rfl rfl rfl <| qM rfl rfl rfl ?_
 refine wOps_op rfl (op_call rfl rfl rfl co11 ((tt_of (c := false) (rowsHas_spec [[97], [99]] [98] kn_up (by decide) _) (by decide +kernel)).mono ?_))
 rintro _ _ ⟨rfl, rfl⟩
 refine qO rfl <| op_not rfl rfl <| qP rfl rfl rfl rfl <| qM rfl rfl rfl <| qM rfl rfl rfl ?_
 refine wOps_op rfl (op_call rfl rfl rfl co13 ((tx_of (rowsWith_spec [[97], [99]] [98] (by decide) _) kn_w).mono ?_))
 rintro _ _ ⟨rfl, rfl⟩
 refine qO rfl <| op_buildSlice rfl Try.underlying22 el9 rfl rfl (by decide) (by decide) rfl rfl ?_
 refine wOps_op rfl (op_call rfl rfl rfl co8 ((tt_of (c := true) (xSame_spec [[97], [98], [99]] [[97], [98], [99]] _) (decide_eq_true rfl)).mono ?_))
 rintro _ _ ⟨rfl, rfl⟩
 refine qP rfl rfl rfl rfl <| qM rfl rfl rfl <| qM rfl rfl rfl ?_
 refine wOps_op rfl (op_call rfl rfl rfl co15 ((tx_of (b := [[99]]) (rowsWithout_spec [[97], [99]] [97] (by decide) _) (by decide +kernel)).mono ?_))
 rintro _ _ ⟨rfl, rfl⟩
 refine qE rfl rfl Try.underlying22 rfl <| qC rfl rfl rfl rfl (eqlI rfl) <| qP rfl rfl rfl rfl <| qM rfl rfl rfl <| qM rfl rfl rfl <| qO rfl <| op_buildSlice rfl Try.underlying22 el9 rfl rfl (by decide) (by decide) rfl rfl ?_
 refine wOps_op rfl (op_call rfl rfl rfl co17 ((tx_of (rowsBoth_spec [[97], [99]] [[98]] (by decide) _) kn_w).mono ?_))
 rintro _ _ ⟨rfl, rfl⟩
 refine qE rfl rfl Try.underlying22 rfl <| qC rfl rfl rfl rfl (eqlI rfl) <| qP rfl rfl rfl rfl <| qM rfl rfl rfl <| qO rfl <| op_buildSlice rfl Try.underlying22 el9 rfl rfl (by decide) (by decide) rfl rfl ?_
 refine qM rfl rfl rfl ?_
 refine wOps_op rfl (op_call rfl rfl rfl co19 ((tt_of (c := true) (rowsWithin_spec [[97]] [[97], [99]] kn_up (by decide) _) (by decide +kernel)).mono ?_))
 rintro _ _ ⟨rfl, rfl⟩
 refine qP rfl rfl rfl rfl <| qA rfl rfl rfl <| qN <| mwp_ret ?_
 exact ret_tmp (.inr rfl) Try.results5 rfl (.of_eq (rfl)) (.bool _) ⟨rfl, rfl⟩
end Go.Proofs.Ytmleelfaijafiaa
end
section
set_option linter.unusedVariables false
set_option linter.unusedSimpArgs false
set_option maxRecDepth 20000
set_option maxHeartbeats 400000
namespace Go.Proofs.Ytmleelfaijafiaa
open Go Go.MV
theorem leqI {a b : Int} (h : a ≤ b) : intCmp .leq a b = some true := by simp [intCmp, h]
theorem RowsLaws_spec (a b c : List Bs) (s : Bs) (S : MS) : MCalls Try.prog 4 [.lst none 1 (a.map encX), .lst none 1 (b.map encX), .lst none 1 (c.map encX), encX s] S fun v σ' => v = .bool true ∧ σ' = S := by
 refine mcalls_body Try.func4 rfl Try.ntmps4 (Nat.le_of_ble_eq_true rfl) ?_
 refine mwp_seq <| qR rfl <| qA rfl rfl rfl <| qN <| mwp_seq <| mwp_seq <| qR rfl ?_
 refine wOps_op rfl (op_call rfl rfl rfl co5 ((knownR_spec _).mono ?_))
 rintro _ _ ⟨rfl, rfl⟩
 refine qO rfl <| op_not rfl rfl <| qN <| mwp_cond_f rfl (rfl) <| mwp_skip <| mwp_seq <| mwp_seq <| qR rfl <| qM rfl rfl rfl <| qE rfl rfl Try.underlying22 rfl <| qC rfl rfl rfl rfl rfl <| qM rfl rfl rfl ?_
 refine wOps_case (fun h19 => ?_) (fun h19 => ?_)
 ·
  refine qS rfl <| qS rfl <| qS rfl <| qP rfl rfl rfl rfl <| qM rfl rfl rfl <| qS rfl <| qS rfl <| qS rfl <| qP rfl rfl rfl rfl <| qN <| mwp_cond_t rfl (rfl) <| mwp_seq <| qR rfl <| qA rfl rfl rfl <| qN <| mwp_ret ?_
  exact ret_tmp (.inr rfl) Try.results4 rfl (.of_eq (rfl)) (.bool _) ⟨rfl, rfl⟩
 ·
  have hal : a.length ≤ 40 := by rw [List.length_map] at h19; have := of_decide_eq_false h19; omega
  refine qM rfl rfl rfl <| qE rfl rfl Try.underlying22 rfl <| qC rfl rfl rfl rfl rfl <| qP rfl rfl rfl rfl <| qM rfl rfl rfl ?_
  refine wOps_case (fun h24 => ?_) (fun h24 => ?_)
  ·
   refine qS rfl <| qS rfl <| qS rfl <| qP rfl rfl rfl rfl <| qN <| mwp_cond_t rfl (rfl) <| mwp_seq <| qR rfl <| qA rfl rfl rfl <| qN <| mwp_ret ?_
   exact ret_tmp (.inr rfl) Try.results4 rfl (.of_eq (rfl)) (.bool _) ⟨rfl, rfl⟩
  ·
   have hbl : b.length ≤ 40 := by rw [List.length_map] at h24; have := of_decide_eq_false h24; omega
   refine qM rfl rfl rfl <| qE rfl rfl Try.underlying22 rfl <| qC rfl rfl rfl rfl rfl <| qP rfl rfl rfl rfl <| qN ?_
   refine mwp_cond_split rfl (fun h28 => ?_) (fun h28 => ?_)
   ·
    refine mwp_seq <| qR rfl <| qA rfl rfl rfl <| qN <| mwp_ret ?_
    exact ret_tmp (.inr rfl) Try.results4 rfl (.of_eq (rfl)) (.bool _) ⟨rfl, rfl⟩
   ·
    have hcl : c.length ≤ 40 := by rw [List.length_map] at h28; have := of_decide_eq_false h28; omega
    have hux := up_sort a
    have huy := up_sort b
    have huz := up_sort c
    have hsx := sort_len a
    have hsy := sort_len b
    have hsz := sort_len c
    have huu := up_both _ _ hux huy
    have huw := up_both _ _ hux (up_single s)
    have huyz := up_both _ _ huy huz
    have hlu := both_len (sortT a) (sortT b)
    have hlw := both_len (sortT a) [s]
    have hlyz := both_len (sortT b) (sortT c)
    have hlo := wo_len s (bothX (sortT a) [s])
    simp only [List.length_cons, List.length_nil] at hlw
    refine mwp_skip <| mwp_seq <| qR rfl <| qM rfl rfl rfl ?_
    refine wOps_op rfl (op_call rfl rfl rfl co9 ((tx_of (rowsSort_spec a (by omega) _) (srt_sort a)).mono ?_))
    rintro _ _ ⟨rfl, rfl⟩
    refine qM rfl rfl rfl ?_
    refine wOps_op rfl (op_call rfl rfl rfl co9 ((tx_of (rowsSort_spec b (by omega) _) (srt_sort b)).mono ?_))
    rintro _ _ ⟨rfl, rfl⟩
    refine qM rfl rfl rfl ?_
    refine wOps_op rfl (op_call rfl rfl rfl co9 ((tx_of (rowsSort_spec c (by omega) _) (srt_sort c)).mono ?_))
    rintro _ _ ⟨rfl, rfl⟩
    refine qA rfl rfl rfl <| qA rfl rfl rfl <| qA rfl rfl rfl <| qN <| mwp_seq <| qR rfl <| qM rfl rfl rfl <| qM rfl rfl rfl ?_
    refine wOps_op rfl (op_call rfl rfl rfl co17 ((rowsBoth_spec (sortT a) (sortT b) (by omega) _).mono ?_))
    rintro _ _ ⟨rfl, rfl⟩
    refine qA rfl rfl rfl <| qN <| mwp_seq <| qR rfl <| qM rfl rfl rfl <| qM rfl rfl rfl ?_
    refine wOps_op rfl (op_call rfl rfl rfl co13 ((rowsWith_spec (sortT a) s (by omega) _).mono ?_))
    rintro _ _ ⟨rfl, rfl⟩
    refine qA rfl rfl rfl <| qN <| mwp_seq <| qR rfl <| qM rfl rfl rfl <| qM rfl rfl rfl <| qM rfl rfl rfl ?_
    refine wOps_op rfl (op_call rfl rfl rfl co17 ((rowsBoth_spec (sortT b) (sortT a) (by omega) _).mono ?_))
    rintro _ _ ⟨rfl, rfl⟩
    refine wOps_op rfl (op_call rfl rfl rfl co8 ((tt_of (c := true) (xSame_spec (bothX (sortT a) (sortT b)) (bothX (sortT b) (sortT a)) _) (decide_eq_true (both_comm hux huy))).mono ?_))
    rintro _ _ ⟨rfl, rfl⟩
    refine qM rfl rfl rfl <| qM rfl rfl rfl <| qM rfl rfl rfl ?_
    refine wOps_op rfl (op_call rfl rfl rfl co17 ((rowsBoth_spec (bothX (sortT a) (sortT b)) (sortT c) (by omega) _).mono ?_))
    rintro _ _ ⟨rfl, rfl⟩
    refine qM rfl rfl rfl <| qM rfl rfl rfl <| qM rfl rfl rfl ?_
    refine wOps_op rfl (op_call rfl rfl rfl co17 ((rowsBoth_spec (sortT b) (sortT c) (by omega) _).mono ?_))
    rintro _ _ ⟨rfl, rfl⟩
    refine wOps_op rfl (op_call rfl rfl rfl co17 ((rowsBoth_spec (sortT a) (bothX (sortT b) (sortT c)) (by omega) _).mono ?_))
    rintro _ _ ⟨rfl, rfl⟩
    refine wOps_op rfl (op_call rfl rfl rfl co8 ((tt_of (c := true) (xSame_spec (bothX (bothX (sortT a) (sortT b)) (sortT c)) (bothX (sortT a) (bothX (sortT b) (sortT c))) _) (decide_eq_true (both_assoc hux huy huz))).mono ?_))
    rintro _ _ ⟨rfl, rfl⟩
    refine qP rfl rfl rfl rfl <| qM rfl rfl rfl <| qM rfl rfl rfl <| qM rfl rfl rfl ?_
    refine wOps_op rfl (op_call rfl rfl rfl co17 ((rowsBoth_spec (sortT a) (sortT a) (by omega) _).mono ?_))
    rintro _ _ ⟨rfl, rfl⟩
    refine qM rfl rfl rfl ?_
    refine wOps_op rfl (op_call rfl rfl rfl co8 ((tt_of (c := true) (xSame_spec (bothX (sortT a) (sortT a)) (sortT a) _) (decide_eq_true (both_idem hux))).mono ?_))
    rintro _ _ ⟨rfl, rfl⟩
    refine qP rfl rfl rfl rfl <| qM rfl rfl rfl <| qM rfl rfl rfl <| qM rfl rfl rfl ?_
    refine wOps_op rfl (op_call rfl rfl rfl co19 ((tt_of (c := true) (rowsWithin_spec (sortT a) (bothX (sortT a) (sortT b)) huu (by omega) _) (decide_eq_true fun y hy => (mem_both _ _ _).2 (.inl hy))).mono ?_))
    rintro _ _ ⟨rfl, rfl⟩
    refine qP rfl rfl rfl rfl <| qM rfl rfl rfl <| qM rfl rfl rfl ?_
    refine wOps_op rfl (op_call rfl rfl rfl co6 ((tt_of (c := true) (rowsIs_spec (bothX (sortT a) (sortT b)) _) ((rises_up _).2 huu)).mono ?_))
    rintro _ _ ⟨rfl, rfl⟩
    refine qP rfl rfl rfl rfl <| qM rfl rfl rfl <| qM rfl rfl rfl <| qM rfl rfl rfl ?_
    refine wOps_op rfl (op_call rfl rfl rfl co11 ((tt_of (c := true) (rowsHas_spec (bothX (sortT a) [s]) s huw (by omega) _) (decide_eq_true ((mem_both _ _ _).2 (.inr (List.mem_singleton.2 rfl))))).mono ?_))
    rintro _ _ ⟨rfl, rfl⟩
    refine qP rfl rfl rfl rfl <| qM rfl rfl rfl <| qM rfl rfl rfl <| qM rfl rfl rfl ?_
    refine wOps_op rfl (op_call rfl rfl rfl co15 ((rowsWithout_spec (bothX (sortT a) [s]) s (by omega) _).mono ?_))
    rintro _ _ ⟨rfl, rfl⟩
    refine qM rfl rfl rfl ?_
    refine wOps_op rfl (op_call rfl rfl rfl co11 ((tt_of (c := false) (rowsHas_spec (woT s (bothX (sortT a) [s])) s (up_wo huw) (by omega) _) (decide_eq_false (not_wo s _))).mono ?_))
    rintro _ _ ⟨rfl, rfl⟩
    refine qO rfl <| op_not rfl rfl <| qP rfl rfl rfl rfl <| qM rfl rfl rfl <| qM rfl rfl rfl <| qM rfl rfl rfl ?_
    refine wOps_op rfl (op_call rfl rfl rfl co19 ((rowsWithin_spec (sortT a) (sortT b) huy (by omega) _).mono ?_))
    rintro _ _ ⟨rfl, rfl⟩
    refine qM rfl rfl rfl <| qM rfl rfl rfl ?_
    refine wOps_op rfl (op_call rfl rfl rfl co8 ((xSame_spec (bothX (sortT a) (sortT b)) (sortT b) _).mono ?_))
    rintro _ _ ⟨rfl, rfl⟩
    refine qO rfl <| op_booleqT rfl Try.underlying4 rfl rfl (by rw [decide_eq_decide]; exact both_sub hux huy) ?_
    refine qP rfl rfl rfl rfl <| qM rfl rfl rfl <| qM rfl rfl rfl <| qE rfl rfl Try.underlying22 rfl <| qM rfl rfl rfl <| qE rfl rfl Try.underlying22 rfl <| qO rfl <| op_arith rfl rfl rfl (wadd (a := ((sortT a).map encX).length) (b := 1) rfl (by rw [List.length_map]; omega)) ?_
    refine qC rfl rfl rfl rfl (leqI (by rw [List.length_map, List.length_map]; omega)) ?_
    refine qP rfl rfl rfl rfl <| qA rfl rfl rfl <| qN <| mwp_ret ?_
    exact ret_tmp (.inr rfl) Try.results4 rfl (.of_eq (rfl)) (.bool _) ⟨rfl, rfl⟩
end Go.Proofs.Ytmleelfaijafiaa
end
section
set_option linter.unusedVariables false
set_option linter.unusedSimpArgs false
namespace Go.MV
open Go Go.RowKit Go.ChangeShapes Go.WideShapes Go.Deep
def g0 (W : World) : Gh := { B := W.heap.size, w0 := W, st := fun b => match W.heap[b]? with | some (.cells c _ _) => c.size | _ => 0, bk := fun _ => none, lg := fun _ _ => none }
theorem rel0 (W : World) : Rel (g0 W) [] W := by
  refine ⟨.refl _ _, Nat.le_refl _, fun b hb => ?_, fun _ _ => rfl, fun _ _ _ => rfl, fun _ => none, ⟨fun id o h => (by simp at h), fun i j b h => (by cases h), fun id b h => (by cases h)⟩⟩
  show (match W.heap[b]? with | some (.cells c _ _) => c.size | _ => 0) = 0
  rw [Array.getElem?_eq_none hb]
theorem stab0 {W : World} {ad : Addr} {k : Nat} {v : Value} (h : W.cell? (ad.add k) = some v) (h1 : v.oneCell' = true) : Stab (g0 W) W ad k v := by
  refine ⟨?_, h, h1⟩
  have e := cell_spot h
  rw [e] at h
  show _ < (match W.heap[(ad.add k).block]? with | some (.cells c _ _) => c.size | _ => 0)
  unfold World.cell? at h
  split at h
  · rename_i c t f hc
    simp only [Option.isSome_none, Bool.false_eq_true, if_false] at h
    simp only at hc
    rw [hc]
    exact (Array.getElem?_eq_some_iff.1 h).1
  · cases h
def TyFs (T : TypeId → List MV → Prop) : List Field → List MV → Prop
  | [], l => l = []
  | f :: fs, l => ∃ a b, l = a ++ b ∧ T f.type a ∧ TyFs T fs b
def ElF (P : Program) (e : TypeId) (x : MV) : Prop := match P.underlying e with | some (.struct _) => x = .agg x.cells | _ => [x] = x.cells
def TyM (P : Program) : Nat → TypeId → List MV → Prop
  | 0, _, _ => False
  | n + 1, t, l =>
    match P.underlying t with
    | some (.int k) => ∃ v, l = [.int k v] ∧ (Lit.int k v).wf = true
    | some .bool => ∃ b, l = [.bool b]
    | some .string => ∃ s, l = [.str s] ∧ s.size ≤ maxLen
    | some (.slice e) => ∃ xs, l = [.lst none (P.cellsOf e) xs] ∧ ∀ x ∈ xs, x.cells.length = P.cellsOf e ∧ TyM P n e x.cells ∧ ElF P e x
    | some (.struct fs) => TyFs (TyM P n) fs.toList l
    | _ => False
def contig (P : Program) (size : Nat) : List Field → Nat → Bool
  | [], off => Nat.beq off size
  | f :: fs, off => Nat.beq f.offset off && contig P size fs (off + P.cellsOf f.type)
def okTypes (P : Program) (ts : List TypeId) : Bool :=
  ts.all fun t => match P.underlying t with
    | some (.int _) | some .bool | some .string => true
    | some (.slice e) => natMem e ts && (match P.underlying e with | some (.struct _) => true | _ => Nat.beq (P.cellsOf e) 1)
    | some (.struct fs) => fs.toList.all (fun f => natMem f.type ts) && contig P (P.cellsOf t) fs.toList 0
    | _ => false
theorem rds_of_fields {P : Program} {W : World} {T : TypeId → List MV → Prop} {cs : List Value} {size : Nat} (hlen : cs.length = size) : ∀ (fs : List Field) (off : Nat), contig P size fs off = true →
    (∀ f ∈ fs, ∃ l, Rds (g0 W) W l ((cs.drop f.offset).take (P.cellsOf f.type)) ∧ T f.type l ∧ l.length = P.cellsOf f.type ∧ ∀ y ∈ l, y.one = true) → ∃ l, Rds (g0 W) W l (cs.drop off) ∧ TyFs T fs l ∧ ∀ y ∈ l, y.one = true
  | [], off, hc, _ => by
    have := Nat.eq_of_beq_eq_true hc
    refine ⟨[], ?_, rfl, fun y hy => by cases hy⟩
    rw [List.drop_eq_nil_of_le (by omega)]
    exact .nil _ _
  | f :: fs, off, hc, h => by
    simp only [contig, Bool.and_eq_true] at hc
    have ho := Nat.eq_of_beq_eq_true hc.1
    obtain ⟨a, h1, h2, h3, h5⟩ := h f (List.mem_cons_self ..)
    obtain ⟨b, k1, k2, k3⟩ := rds_of_fields hlen fs _ hc.2 (fun f' hf' => h f' (List.mem_cons_of_mem _ hf'))
    refine ⟨a ++ b, ?_, ⟨a, b, rfl, h2, k2⟩, fun y hy => (List.mem_append.1 hy).elim (h5 y) (k3 y)⟩
    have e : cs.drop off = (cs.drop off).take (P.cellsOf f.type) ++ cs.drop (off + P.cellsOf f.type) := by
      rw [← List.drop_drop, List.take_append_drop]
    rw [e]
    rw [ho] at h1
    exact h1.append k1
theorem tyFs_mono {T T' : TypeId → List MV → Prop} (h : ∀ t l, T t l → T' t l) : ∀ (fs : List Field) (l : List MV), TyFs T fs l → TyFs T' fs l
  | [], l, hl => hl
  | f :: fs, l, ⟨a, b, e, h1, h2⟩ => ⟨a, b, e, h _ _ h1, tyFs_mono h fs b h2⟩
theorem tyM_succ {P : Program} : ∀ (n : Nat) (t : TypeId) (l : List MV), TyM P n t l → TyM P (n + 1) t l
  | 0, t, l, h => h.elim
  | n + 1, t, l, h => by
    unfold TyM at h ⊢
    split at h
    · rename_i k hu; exact h
    · rename_i hu; exact h
    · rename_i hu; exact h
    · rename_i e hu
      obtain ⟨xs, h1, h2⟩ := h
      exact ⟨xs, h1, fun x hx => ⟨(h2 x hx).1, tyM_succ n _ _ (h2 x hx).2.1, (h2 x hx).2.2⟩⟩
    · rename_i fs hu; exact tyFs_mono (tyM_succ n) _ _ h
    · exact h.elim
theorem tyM_le {P : Program} {n m : Nat} (h : n ≤ m) {t : TypeId} {l : List MV} (ht : TyM P n t l) : TyM P m t l := by
  obtain ⟨d, rfl⟩ := Nat.le.dest h
  induction d with
  | zero => exact ht
  | succ d ih => exact tyM_succ _ _ _ (ih (by omega))
section
variable {H : Type} {enc : TypeId × Value → H} {P : Program} {W : World} {base : Nat} {spare : Nat → Bool} {held : Bool}
theorem common_bound {α : Type} {p : Nat → α → Prop} (hm : ∀ n m a, n ≤ m → p n a → p m a) : ∀ (l : List α), (∀ a ∈ l, ∃ n, p n a) → ∃ n, ∀ a ∈ l, p n a
  | [], _ => ⟨0, fun a h => by cases h⟩
  | a :: l, h => by
    obtain ⟨n, hn⟩ := h a (List.mem_cons_self ..)
    obtain ⟨m, hm'⟩ := common_bound hm l (fun b hb => h b (List.mem_cons_of_mem _ hb))
    refine ⟨max n m, fun b hb => ?_⟩
    rcases List.mem_cons.1 hb with rfl | hb
    · exact hm _ _ _ (by omega) hn
    · exact hm _ _ _ (by omega) (hm' b hb)
theorem reads_gen {ts : List TypeId} (hok : okTypes P ts = true) : ∀ (n : Nat) (x : DataW H × List MemPlace) (fuel : Nat) (t : TypeId) (cs : List Value), SizeOf.sizeOf x.1 ≤ n → t ∈ ts → DataW.trod enc P W base spare held fuel t cs = some x →
    ∃ (l : List MV) (m : Nat), Rds (g0 W) W l cs ∧ TyM P m t l ∧ ∀ y ∈ l, y.one = true := by
  intro n
  induction n using Nat.strongRecOn with
  | _ n ih =>
  intro x fuel t cs hx ht h
  have hot : (match P.underlying t with
    | some (.int _) | some .bool | some .string => true
    | some (.slice e) => natMem e ts && (match P.underlying e with | some (.struct _) => true | _ => Nat.beq (P.cellsOf e) 1)
    | some (.struct fs) => fs.toList.all (fun f => natMem f.type ts) && contig P (P.cellsOf t) fs.toList 0
    | _ => false) = true := by
    simp only [okTypes, List.all_eq_true] at hok
    exact hok t ht
  split at hot
  · rename_i k hu
    obtain ⟨v, rfl, rfl, hwf⟩ := DataW.trod_int hu h
    refine ⟨[.int k v], 1, .cons (.int _ _) (.nil _ _), ?_, by simp [MV.one]⟩
    unfold TyM
    rw [hu]
    exact ⟨v, rfl, hwf⟩
  · rename_i hu
    obtain ⟨b, rfl, rfl⟩ := DataW.trod_bool hu h
    refine ⟨[.bool b], 1, .cons (.bool _) (.nil _ _), ?_, by simp [MV.one]⟩
    unfold TyM
    rw [hu]
    exact ⟨b, rfl⟩
  · rename_i hu
    obtain ⟨s, rfl, rfl, hs⟩ := DataW.trod_string hu h
    refine ⟨[.str s], 1, .cons (.str _) (.nil _ _), ?_, by simp [MV.one]⟩
    unfold TyM
    rw [hu]
    exact ⟨s, rfl, hs⟩
  · rename_i e hu
    simp only [Bool.and_eq_true] at hot
    have he : e ∈ ts := natMem_iff.1 hot.1
    rcases open_slice hu h with ⟨rfl, rfl⟩ | ⟨a, len, cap, m, n', D, Pl, rfl, hb, hl, hm, hmm, rfl, hi⟩
    · refine ⟨[.lst none (P.cellsOf e) []], 1, .cons (Sub.nil _ _ _ _ .lst0) (.nil _ _), ?_, by simp [MV.one]⟩
      unfold TyM
      rw [hu]
      exact ⟨[], rfl, fun x hx => by cases hx⟩
    · have hlm : len ≤ m := by rw [hmm]; split <;> omega
      have hel : ∀ i, i < len → ∃ (l : List MV) (k : Nat) (us : List Value), us.length = P.cellsOf e ∧ Rds (g0 W) W l us ∧ TyM P k e l ∧ (∀ y ∈ l, y.one = true) ∧ ∀ j, j < P.cellsOf e → W.cell? ((a.add (i * P.cellsOf e)).add j) = us[j]? := by
        intro i hil
        obtain ⟨cs', hc, ht'⟩ := hi i (by omega)
        obtain ⟨_, hlen, hcell⟩ := World.cells?_some hc
        have hsz : SizeOf.sizeOf (D i) < n := by
          have hmem : D i ∈ (List.range len).map D := List.mem_map.2 ⟨i, List.mem_range.2 hil, rfl⟩
          have := List.sizeOf_lt_of_mem hmem
          simp only [DataW.slice.sizeOf_spec] at hx
          omega
        obtain ⟨l, k, h1, h2, h3⟩ := ih _ hsz (D i, Pl i) n' e cs' (Nat.le_refl _) he ht'
        exact ⟨l, k, cs', hlen, h1, h2, h3, hcell⟩
      have hall : ∀ (N : Nat), N ≤ len → ∃ (xs : List MV) (us : List Value) (k : Nat), xs.length = N ∧ us.length = N * P.cellsOf e ∧ Rds (g0 W) W (flat xs) us ∧ (∀ y ∈ flat xs, y.one = true) ∧ (∀ x ∈ xs, x.cells.length = P.cellsOf e ∧ TyM P k e x.cells ∧ ElF P e x) ∧
          ∀ j, j < N * P.cellsOf e → W.cell? (a.add j) = us[j]? := by
        intro N
        induction N with
        | zero => exact fun _ => ⟨[], [], 0, rfl, by simp, .nil _ _, by simp [flat], by simp, by simp⟩
        | succ N ihN =>
          intro hN
          obtain ⟨xs, us, k, q1, q2, q3, q4, q5, q6⟩ := ihN (by omega)
          obtain ⟨l, k', us', r1, r2, r3, r4, r5⟩ := hel N (by omega)
          have hll : l.length = P.cellsOf e := by rw [← r2.1, r1]
          obtain ⟨y, hy1, hy2⟩ : ∃ y : MV, y.cells = l ∧ ElF P e y := by
            cases hue : P.underlying e with
            | none => 
              have hk1 : P.cellsOf e = 1 := by have := hot.2; rw [hue] at this; exact Nat.eq_of_beq_eq_true this
              match l, hll.trans hk1 with
              | [y], _ =>
                have := r4 y (List.mem_cons_self ..)
                simp only [ElF, hue]
                refine ⟨y, ?_, ?_⟩ <;> (cases y <;> first | rfl | (cases this; done))
            | some d =>
              cases d with
              | struct fs => exact ⟨.agg l, rfl, by simp only [ElF, hue]; rfl⟩
              | _ =>
                have hk1 : P.cellsOf e = 1 := by have := hot.2; rw [hue] at this; exact Nat.eq_of_beq_eq_true this
                match l, hll.trans hk1 with
                | [y], _ =>
                  have := r4 y (List.mem_cons_self ..)
                  simp only [ElF, hue]
                  refine ⟨y, ?_, ?_⟩ <;> (cases y <;> first | rfl | (cases this; done))
          refine ⟨xs ++ [y], us ++ us', max k k', by simp [q1], by rw [List.length_append, q2, r1, Nat.add_mul]; omega, ?_, ?_, ?_, ?_⟩
          · rw [flat_append]
            refine q3.append ?_
            simp only [flat, List.flatMap_cons, List.flatMap_nil, List.append_nil, hy1]
            exact r2
          · intro z hz
            rw [flat_append, List.mem_append] at hz
            rcases hz with hz | hz
            · exact q4 z hz
            · simp only [flat, List.flatMap_cons, List.flatMap_nil, List.append_nil, hy1] at hz
              exact r4 z hz
          · intro x hx
            rcases List.mem_append.1 hx with hx | hx
            · exact ⟨(q5 x hx).1, tyM_le (by omega) (q5 x hx).2.1, (q5 x hx).2.2⟩
            · simp at hx
              subst hx
              rw [hy1]
              exact ⟨hll, tyM_le (by omega) r3, hy2⟩
          · intro j hj
            rw [Nat.add_mul, Nat.one_mul] at hj
            by_cases hjl : j < N * P.cellsOf e
            · rw [List.getElem?_append_left (by omega)]
              exact q6 j hjl
            · rw [List.getElem?_append_right (by omega), q2, ← r5 (j - N * P.cellsOf e) (by omega), Go.MV.add_add]
              congr 2
              omega
      obtain ⟨xs, us, k, q1, q2, q3, q4, q5, q6⟩ := hall len (Nat.le_refl _)
      refine ⟨[.lst none (P.cellsOf e) xs], k + 1, .cons (.lst' q1 hl hm (fun x hx => (q5 x hx).1) q3 (fun j u hu => ⟨a, rfl, stab0 ?_ ?_⟩) (fun t ht => by cases ht)) (.nil _ _), ?_, by simp [MV.one]⟩
      · have hj : j < us.length := (List.getElem?_eq_some_iff.1 hu).1
        rw [q6 j (by omega)]
        exact hu
      · have hj : j < us.length := (List.getElem?_eq_some_iff.1 hu).1
        have hjf : j < (flat xs).length := by rw [← q3.1]; exact hj
        exact one_cell (q3.2 j _ u (List.getElem?_eq_getElem hjf) hu) (q4 _ (List.getElem_mem hjf))
      · unfold TyM
        rw [hu]
        exact ⟨xs, rfl, q5⟩
  · rename_i fs hu
    simp only [Bool.and_eq_true, List.all_eq_true] at hot
    obtain ⟨xs, n', rfl, rfl, hlen, hxl, hf⟩ := DataW.trod_struct hu h
    have hfld : ∀ f ∈ fs.toList, ∃ (k : Nat) (l : List MV), Rds (g0 W) W l ((cs.drop f.offset).take (P.cellsOf f.type)) ∧ TyM P k f.type l ∧ ∀ y ∈ l, y.one = true := by
      intro f hfm
      obtain ⟨i, hi⟩ := List.getElem?_of_mem hfm
      have hi' : fs[i]? = some f := by simpa using hi
      have hilt : i < xs.length := by rw [hxl]; exact (Array.getElem?_eq_some_iff.1 hi').1
      have htr := hf i f hi'
      rw [List.getElem?_eq_getElem hilt] at htr
      have hsz : SizeOf.sizeOf xs[i].1 < n := by
        have hmem : xs[i].1 ∈ xs.map (·.1) := List.mem_map.2 ⟨xs[i], List.getElem_mem hilt, rfl⟩
        have := List.sizeOf_lt_of_mem hmem
        simp only [DataW.agg.sizeOf_spec] at hx
        omega
      obtain ⟨l, k, h1, h2, h3⟩ := ih _ hsz xs[i] n' f.type _ (Nat.le_refl _) (natMem_iff.1 (hot.1 f hfm)) htr
      exact ⟨k, l, h1, h2, h3⟩
    obtain ⟨K, hK⟩ := common_bound (p := fun k (f : Field) => ∃ l : List MV, Rds (g0 W) W l ((cs.drop f.offset).take (P.cellsOf f.type)) ∧ TyM P k f.type l ∧ ∀ y ∈ l, y.one = true) (fun a b f hab ⟨l, h1, h2, h3⟩ => ⟨l, h1, tyM_le hab h2, h3⟩) fs.toList hfld
    have hcont := hot.2
    have hlens : ∀ (gs : List Field) (off : Nat), contig P (P.cellsOf t) gs off = true → off ≤ P.cellsOf t ∧ ∀ f ∈ gs, f.offset + P.cellsOf f.type ≤ P.cellsOf t := by
      intro gs
      induction gs with
      | nil => exact fun off hc => ⟨Nat.le_of_eq (Nat.eq_of_beq_eq_true hc), fun f hf => by cases hf⟩
      | cons f gs ihg =>
        intro off hc
        simp only [contig, Bool.and_eq_true] at hc
        have ho := Nat.eq_of_beq_eq_true hc.1
        obtain ⟨h1, h2⟩ := ihg _ hc.2
        refine ⟨by omega, fun f' hf' => ?_⟩
        rcases List.mem_cons.1 hf' with rfl | hf'
        · omega
        · exact h2 f' hf'
    obtain ⟨l, h1, h2, h3⟩ := rds_of_fields (P := P) (W := W) (T := TyM P K) hlen fs.toList 0 hcont (fun f hfm => by
      obtain ⟨l, h1, h2, h3⟩ := hK f hfm
      refine ⟨l, h1, h2, ?_, h3⟩
      have := (hlens _ _ hcont).2 f hfm
      rw [← h1.1, List.length_take, List.length_drop, hlen]
      omega)
    refine ⟨l, K + 1, by simpa using h1, ?_, h3⟩
    unfold TyM
    rw [hu]
    exact h2
  · cases hot
end
section
variable {H : Type} {enc : TypeId × Value → H} {P : Program} {W : World} {base b0 : Nat} {spare : Nat → Bool} {held : Bool} {r : Reach}
theorem arg_one {ts : List TypeId} (hok : okTypes P ts = true) {t : TypeId} (ht : t ∈ ts) {v : Value} {d : DataW H} {p : List MemPlace} (hv : v.cells = #[v]) (h : DataW.Trod enc P W base spare held t v d p) :
    ∃ (l : List MV) (m : Nat), Rds (g0 W) W l [v] ∧ TyM P m t l := by
  obtain ⟨fuel, hf⟩ := h
  rw [hv] at hf
  obtain ⟨l, m, h1, h2, _⟩ := reads_gen hok _ _ _ _ _ (Nat.le_refl _) ht hf
  exact ⟨l, m, h1, h2⟩
end
theorem law_calls {P : Program} {f : FuncId} {xs : List MV} {W : World} {vs : List Value} (h : MCalls P f xs [] fun v σ' => v = .bool true ∧ σ' = []) (hr : Rds (g0 W) W xs vs) : Calls P f vs.toArray W fun e w' => e = .returned (.bool true) ∧ Below W.heap.size W w' := by
  refine (callsIn_wide.1 (h (g0 W) W vs (rel0 W) hr)).mono ?_
  rintro e w' ⟨v, rfl, x, σ', g', ⟨rfl, rfl⟩, hrel, hrd, hle⟩
  rw [hrd.inv_bool]
  have := hrel.below
  rw [hle.B, hle.w0] at this
  exact ⟨rfl, this⟩
end Go.MV
end
section
set_option linter.unusedVariables false
set_option linter.unusedSimpArgs false
namespace Go.MV
open Go Go.RowKit Go.WideShapes Go.ChangeShapes
section
variable {H : Type} {enc : TypeId × Value → H} {P : Program} {W : World} {base b0 : Nat} {spare : Nat → Bool} {held : Bool} {r : Reach} {ts : List TypeId} {t : TypeId} {v : Value} {d : DataW H} {p : List MemPlace}
theorem tyM_str (hu : P.underlying t = some .string) {n : Nat} {l : List MV} (h : TyM P n t l) : ∃ s : Bs, l = [.str (bs s)] ∧ s.length ≤ maxLen := by
  cases n with
  | zero => exact h.elim
  | succ n =>
    unfold TyM at h; rw [hu] at h
    obtain ⟨s, rfl, hs⟩ := h
    exact ⟨strL s, by rw [bs_strL], by unfold strL; rw [Array.length_toList]; exact hs⟩
theorem tyM_slice {e : TypeId} (hu : P.underlying t = some (.slice e)) {n : Nat} {l : List MV} (h : TyM P n t l) : ∃ xs m, m + 1 = n ∧ l = [.lst none (P.cellsOf e) xs] ∧ ∀ x ∈ xs, x.cells.length = P.cellsOf e ∧ TyM P m e x.cells ∧ ElF P e x := by
  cases n with
  | zero => exact h.elim
  | succ n =>
    unfold TyM at h; rw [hu] at h
    obtain ⟨xs, h1, h2⟩ := h
    exact ⟨xs, n, rfl, h1, h2⟩
theorem all_enc {α : Type} {enc : α → MV} {q : α → Prop} : ∀ {xs : List MV}, (∀ x ∈ xs, ∃ a, x = enc a ∧ q a) → ∃ l : List α, xs = l.map enc ∧ ∀ a ∈ l, q a
  | [], _ => ⟨[], rfl, fun a h => by cases h⟩
  | x :: xs, h => by
    obtain ⟨l, rfl, hl⟩ := all_enc (fun y hy => h y (List.mem_cons_of_mem _ hy))
    obtain ⟨a, rfl, ha⟩ := h x (List.mem_cons_self ..)
    refine ⟨a :: l, rfl, fun b hb => ?_⟩
    rcases List.mem_cons.1 hb with rfl | hb
    · exact ha
    · exact hl b hb
theorem rd_of_rds {g : Gh} {w : World} {m : MV} {v : Value} (h : Rds g w [m] [v]) : Rd g w m v := h.2 0 _ _ rfl rfl
theorem arg_str (hok : okTypes P ts = true) (ht : t ∈ ts) (hu : P.underlying t = some .string) (hv : Value.okWide P W r b0 t v) (h : DataW.Trod enc P W base spare held t v d p) : ∃ s : Bs, Rd (g0 W) W (.str (bs s)) v ∧ s.length ≤ maxLen := by
  obtain ⟨n, rfl⟩ := okWide_string hu hv
  obtain ⟨l, m, h1, h2⟩ := arg_one hok ht rfl h
  obtain ⟨n', rfl, hw⟩ := tyM_str hu h2
  exact ⟨n', rd_of_rds h1, hw⟩
theorem arg_slice {e : TypeId} {α : Type} {en : α → MV} {q : α → Prop} (hok : okTypes P ts = true) (ht : t ∈ ts) (hu : P.underlying t = some (.slice e)) (hel : ∀ m x, x.cells.length = P.cellsOf e → TyM P m e x.cells → ElF P e x → ∃ a, x = en a ∧ q a)
    (hv : Value.okWide P W r b0 t v) (h : DataW.Trod enc P W base spare held t v d p) : ∃ l : List α, Rd (g0 W) W (.lst none (P.cellsOf e) (l.map en)) v ∧ (∀ a ∈ l, q a) ∧ l.length ≤ maxLen := by
  obtain ⟨a, n, c, rfl⟩ := okWide_slice hu hv
  obtain ⟨l, m, h1, h2⟩ := arg_one hok ht rfl h
  obtain ⟨xs, m, _, rfl, hx⟩ := tyM_slice hu h2
  obtain ⟨l, rfl, hl⟩ := all_enc (fun x hx' => hel m x (hx x hx').1 (hx x hx').2.1 (hx x hx').2.2)
  refine ⟨l, rd_of_rds h1, hl, ?_⟩
  obtain ⟨_, _, _, _, h3, h4, _⟩ := (rd_of_rds h1).inv_lst
  have := Nat.le_trans h3 h4
  rwa [List.length_map] at this
theorem el_str (hu : P.underlying t = some .string) (m : Nat) (x : MV) (h : TyM P m t x.cells) (he : ElF P t x) : ∃ a : Bs, x = .str (bs a) ∧ a.length ≤ maxLen := by
  obtain ⟨n, hn', hw⟩ := tyM_str hu h
  simp only [ElF, hu] at he
  rw [hn'] at he
  injection he with he
  exact ⟨n, he, hw⟩
end
end Go.MV
end
section
set_option linter.unusedVariables false
set_option linter.unusedSimpArgs false
set_option maxRecDepth 100000
namespace Go.Proofs.Ytmleelfaijafiaa
open Go Go.MV
theorem cells_str : Try.prog.cellsOf 9 = 1 := by kernel_rfl
def TxtOk (s : Bs) : Prop := s.length ≤ maxLen
theorem el_txt (m : Nat) (x : MV) (_ : x.cells.length = Try.prog.cellsOf 9) (h : TyM Try.prog m 9 x.cells) (he : ElF Try.prog 9 x) : ∃ a : Bs, x = .str (bs a) ∧ TxtOk a := by
  obtain ⟨a, h1, h2⟩ := el_str Try.underlying9 m x h he
  exact ⟨a, h1, h2⟩
theorem arg_texts {ts : List TypeId} (hok : okTypes Try.prog ts = true) (ht : 22 ∈ ts) {H : Type} {enc : TypeId × Value → H} {W : World} {base b0 : Nat} {spare : Nat → Bool} {held : Bool} {r : Reach} {v : Value} {d : DataW H} {p : List MemPlace} (hv : Value.okWide Try.prog W r b0 22 v) (h : DataW.Trod enc Try.prog W base spare held 22 v d p) :
    ∃ c : List Bs, Rd (g0 W) W (.lst none 1 (c.map fun s => .str (bs s))) v ∧ (∀ s ∈ c, TxtOk s) ∧ c.length ≤ maxLen := by
  obtain ⟨c, h1, h2, h3⟩ := arg_slice (en := fun s : Bs => .str (bs s)) hok ht Try.underlying22 (q := TxtOk) el_txt hv h
  rw [cells_str] at h1
  exact ⟨c, h1, h2, h3⟩
end Go.Proofs.Ytmleelfaijafiaa
end
