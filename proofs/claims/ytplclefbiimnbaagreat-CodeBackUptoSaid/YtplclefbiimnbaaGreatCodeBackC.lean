/-
  Texts on which the proof of CodeBack leans: part 3.
-/
import Derived.Test.YtplclefbiimnbaaGreatCodeBackB
import Derived.WalkKit
import Derived.LaidEql
import Derived.RowKitTokens
import Derived.Stop.Asserts
set_option linter.unusedVariables false
set_option linter.unusedSimpArgs false
set_option maxRecDepth 20000
set_option maxHeartbeats 8000000
namespace Go.Proofs.YtplclefbiimnbaaGreat
open Go Go.MV Go.RowKit
theorem set_self_o {S : MS} {id : Nat} {o : MObj} (h : S[id]? = some o) : S.set id o = S := by
 obtain ⟨hl, e⟩ := zI.1 h
 rw [← e, List.set_getElem_self]
theorem get_neO {S : MS} {i k : Nat} {o p : MObj} (hne : i ≠ k) (h : S[k]? = some p) : (S.set i o)[k]? = some p := by rw [List.getElem?_set_ne hne]; exact h
theorem ret_tmp2S {P : Program} {fn : Func} {S S' L : MS} {R : MV → MS → Prop} {env : Env} {e : Exit} {t t' : Nat} {x y x' y' : MV} (he : e = .normal ∨ e = .ret) (hres : fn.results = #[.tmp t, .tmp t']) (hx : get env t = some x) (hx' : get env t' = some x') (hs : Sub x y) (hs' : Sub x' y') (hc : Cl S'.length y) (hc' : Cl S'.length y') (hl : S.length ≤ S'.length) (hS : ClS S') (hR : R (.tup [y, y']) S') : BodyQ P fn S R e env (S' ++ L) := by
 refine ⟨he, [x, x'], .tup [y, y'], S', L, ?_, .tup (.cons hs (.cons hs' .nil)), .tup _ (fun z hz => ?_), rfl, hl, .inr hS, hR⟩
 ·rw [hres]
  exact .tmp hx (.tmp hx' .nil)
 ·simp at hz
  rcases hz with rfl | rfl
  ·exact hc
  ·exact hc'
def prO (id t : Nat) (l : Bs) : MObj := .tcells 57 [.ref id 0, .lst (some t) 1 (l.map encY)]
def pr (S : MS) (id t : Nat) (l : Bs) : MS := (S.set id (prO id t l)).set t (.row 5 1 l.length)
theorem pr_len (S : MS) (id t : Nat) (l : Bs) : (pr S id t l).length = S.length := by simp [pr]
theorem _root_.zV1 : type_of% @pr_len := @pr_len
theorem check_spec (id : Nat) (p q : MV) (hp : p = .ptr0 ∨ p = .ref id 0) (S : MS) (h : S[id]? = some (.tcells 57 [p, q])) : MCalls Tryz.prog 66 [.ref id 0] S fun v σ' => v = .tup [] ∧ σ' = S.set id (.tcells 57 [.ref id 0, q]) := by
 rcases hp with rfl | rfl
 ·exact check_new id q S h
 ·refine (check_used id q S h).mono fun v σ' hv => ⟨hv.1, ?_⟩
  rw [hv.2, set_self_o h]
theorem cls_pr {S : MS} {id t : Nat} {l : Bs} (h : ClS S) (hid : id < S.length) (ht : t < S.length) : ClS (pr S id t l) := by
 have h1 : ClS (S.set id (prO id t l)) := cls_tc h fun x hx => by
  rcases List.mem_cons.1 hx with rfl | hx
  ·exact .ref _ _ hid
  ·rcases List.mem_cons.1 hx with rfl | hx
   ·exact cl_lstT ht (fun y => .int _ _) (fun y => .inr rfl)
   ·cases hx
 intro i o ho
 unfold pr at ho ⊢
 rw [List.length_set]
 rcases List.mem_or_eq_of_mem_set (zU ho) with hm | rfl
 ·obtain ⟨j, hj⟩ := List.getElem?_of_mem hm
  exact h1 j o hj
 ·exact trivial
theorem pr_norm {S : MS} {id t n : Nat} {a o : MObj} (hne : id ≠ t) : ((S.set id a).set t (.row 5 1 n)).set id o = (S.set id o).set t (.row 5 1 n) := by
 rw [List.set_comm _ _ hne.symm, List.set_set]
theorem write_spec (id t : Nat) (p : MV) (hp : p = .ptr0 ∨ p = .ref id 0) (l s : Bs) (hne : id ≠ t) (S : MS) (h : S[id]? = some (.tcells 57 [p, .lst (some t) 1 (l.map encY)])) (ht : S[t]? = some (.row 5 1 l.length)) (hlen : l.length + s.length ≤ 10000000) : MCalls Tryz.prog 38 [.ref id 0, .str (bs s)] S fun v σ' => v = .tup [.int .i64 (s.length : Int), .iface0] ∧ σ' = pr S id t (l ++ s) := by
 refine zN Tryz.func38 V Tryz.ntmps38 (zB V) ?_
 refine zS0 fun _ hcl => ?_
 rw [List.append_nil] at hcl
 have hidl := (zI.1 h).1
 have htl := (zI.1 ht).1
 have h1 : (S.set id (.tcells 57 [.ref id 0, .lst (some t) 1 (l.map encY)]))[id]? = some (.tcells 57 [.ref id 0, .lst (some t) 1 (l.map encY)]) := zE3 h
 have ht1 : (S.set id (.tcells 57 [.ref id 0, .lst (some t) 1 (l.map encY)]))[t]? = some (.row 5 1 l.length) := get_neO hne ht
 have h2 : ((S.set id (.tcells 57 [.ref id 0, .lst (some t) 1 (l.map encY)])).set t (.row 5 1 (l.length + s.length)))[id]? = some (.tcells 57 [.ref id 0, .lst (some t) 1 (l.map encY)]) := get_neO hne.symm h1
 refine zA <| qR V <| qA V V V <| qA V V V <| qN <| zA <| qR V <| qM V V V ?_
 refine qX V V V V co66 (check_spec id p _ hp (S ++ []) (zN2 h)) ?_
 rw [set_slO h]
 refine qN <| zA <| qR V <| qM V V V <| qM V V V <| qO V <| zE0 V V V <| qF V V V fo55_1 <| qO V <| zF5 V V (zN2 h1) ta53 V <| qM V V V <| qO V <| op_appendS V zW2 zJ0 el5 V V (zN2 ht1) (by simp) (by omega) (by omega) ?_
 rw [set_slO ht1]
 refine qO V <| zE0 V V V <| qF V V V fo55_1 <| qO V <| op_store_T V V V (zN2 h2) sz53 V V (zB V) ?_
 rw [set_slO h2]
 refine qN <| zA <| qR V <| qM V V V <| qO V <| zD2 V zJ0 V <| qA V V V <| qA V V V ?_
 have hE : ((S.set id (.tcells 57 [.ref id 0, .lst (some t) 1 (l.map encY)])).set t (.row 5 1 (l.length + s.length))).set id (.tcells 57 [.ref id 0, .lst (some t) 1 (l.map encY ++ s.map encY)]) = pr S id t (l ++ s) := by
  rw [← List.map_append, ← zF]
  exact pr_norm hne
 refine qN <| zG ?_
 exact ret_tmp2S (.inr V) Tryz.results38 V V (.refl _) (.refl _) (.int _ _) .iface0 (by simp) (by
   have := cls_pr (l := l ++ s) hcl hidl htl
   rw [← hE] at this
   exact this) ⟨rfl, hE⟩
theorem cls_gone {S : MS} {t : Nat} (h : ClS S) : ClS (S.set t .gone) := by
 intro i o ho
 rw [List.length_set]
 rcases List.mem_or_eq_of_mem_set (zU ho) with hm | rfl
 ·obtain ⟨j, hj⟩ := List.getElem?_of_mem hm
  exact h j o hj
 ·exact trivial
theorem string_spec (id t : Nat) (l : Bs) (hl0 : l ≠ []) (hne : id ≠ t) (S : MS) (h : S[id]? = some (.tcells 57 [.ref id 0, .lst (some t) 1 (l.map encY)])) (ht : S[t]? = some (.row 5 1 l.length)) (hlen : l.length ≤ 10000000) : MCalls Tryz.prog 20 [.ref id 0] S fun v σ' => v = .str (bs l) ∧ σ' = S.set t .gone := by
 refine zN Tryz.func20 V Tryz.ntmps20 (zB V) ?_
 refine zS0 fun _ hcl => ?_
 rw [List.append_nil] at hcl
 have htl := (zI.1 ht).1
 have hg1 : (S.set t MObj.gone)[id]? = some (.tcells 57 [.ref id 0, .lst (some t) 1 (l.map encY)]) := get_neO hne.symm h
 have hg2 : (S.set t MObj.gone ++ [MObj.pin 5 l])[id]? = some (.tcells 57 [.ref id 0, .lst (some t) 1 (l.map encY)]) := zN2 hg1
 refine zA <| qR V <| qA V V V <| qN <| zA ?_
 refine zV0 [4, 10] [_, (S.set t .gone) ++ [MObj.pin 5 l], (S.set t .gone) ++ [MObj.gone]] mo (by decide) V V V V ?_
 refine zV V V (.cons (zY V V Vv) (.cons (zY V V Vv) (.cons (zY V V Vv) (.nil)))) <| zV V V (.cons (zE0 V V V Vv) (.cons (zE0 V V V Vv) (.cons (zE0 V V V Vv) (.nil)))) <| zV V V (.cons (zL V V fo55_1 Vv) (.cons (zL V V fo55_1 Vv) (.cons (zL V V fo55_1 Vv) (.nil)))) <| dO V V V (zF5 V V (by first | exact zN2 h | exact zN2 hg1 | exact zN2 hg2) ta53 V Vv) ?_
 refine zG1 V V V V (op_sliceData V V hl0 (zN2 ht) V ⟨rfl, by rw [List.append_nil]⟩) ?_
 refine zV V V (.cons (zY V V Vv) (.cons (zY V V Vv) (.cons (zY V V Vv) (.nil)))) <| zV V V (.cons (zE0 V V V Vv) (.cons (zE0 V V V Vv) (.cons (zE0 V V V Vv) (.nil)))) <| zV V V (.cons (zL V V fo55_1 Vv) (.cons (zL V V fo55_1 Vv) (.cons (zL V V fo55_1 Vv) (.nil)))) <| zV V V (.cons (zF5 V V (by first | exact zN2 h | exact zN2 hg1 | exact zN2 hg2) ta53 V Vv) (.cons (zF5 V V (by first | exact zN2 h | exact zN2 hg1 | exact zN2 hg2) ta53 V Vv) (.cons (zF5 V V (by first | exact zN2 h | exact zN2 hg1 | exact zN2 hg2) ta53 V Vv) (.nil)))) ?_
 refine zV V V (.cons (op_len_lst V zW2 V Vv) (.cons (op_len_lst V zW2 V Vv) (.nil))) <| zG1 V V V V (op_unsafeString V Tryz.underlying80 (by kernel_rfl) V V (by rw [zH]) hl0 (by simp only [maxLen]; omega) (by rw [List.append_nil]; simp) ⟨rfl, by rw [List.append_nil]; simp⟩) ?_
 refine dO V V V (zC1 V V Vv) <| zO0 <| zG ?_
 exact zE2 (.inr V) Tryz.results20 V (.refl _) (.str _) (by simp) (cls_gone hcl) Vv
end Go.Proofs.YtplclefbiimnbaaGreat
namespace Go.Proofs.YtplclefbiimnbaaGreat
open Go Go.MV Go.RowKit Go.Extern.Stop Go.Extern
theorem tT (v : Value) (w : World) : (Extern.ReflectliteType.typeOf #[.iface 45 v]).run Tryz.prog w = .ok (.iface 89 (.agg #[.pointer (some ⟨Tryz.prog.globals.size, 45, none⟩)])) w := by kernel_rfl
theorem cT (w : World) : ((Extern.ReflectliteType.method fun t => do Extern.Rtype.noPackHeld "Comparable" t; pure (.bool (← typeInfo t).comparable)) #[.agg #[.pointer (some ⟨Tryz.prog.globals.size, 45, none⟩)]]).run Tryz.prog w = .ok (.bool true) w := by kernel_rfl
theorem mR (v : Value) (w : World) : (Go.method 268 89 v "Comparable").run Tryz.prog w = .ok (127, v) w := by kernel_rfl
theorem errComp : (Tryz.prog.info? 45).map (·.comparable) = some true := by kernel_rfl
theorem eqErr (n : Int) (w : World) : (binOp .eql 37 (.iface 45 (.int .i64 n)) (.iface 45 (.int .i64 n))).run Tryz.prog w = .ok (.bool true) w := by
 obtain ⟨i, hi, hcmp⟩ := Option.map_eq_some_iff.1 errComp
 have h : ∀ d : Nat, (Op.equalIn (d + 2) 37 (.iface 45 (.int .i64 n)) (.iface 45 (.int .i64 n))).run Tryz.prog w = .ok true w := fun d => by
  simp [Op.equalIn, run_underlying zG0, run_underlying zI2, typeInfo, hi, hcmp]
 simp only [binOp]
 simp [Op.equal, Op.maxDepth, h 9998]
theorem nilErr (v : Value) (w : World) : (binOp .eql 37 (.iface 45 v) .nilIface).run Tryz.prog w = .ok (.bool false) w := by
 have h : ∀ d : Nat, (Op.equalIn (d + 1) 37 (.iface 45 v) .nilIface).run Tryz.prog w = .ok false w := fun d => by simp [Op.equalIn, run_underlying zG0]
 simp only [binOp]
 simp [Op.equal, Op.maxDepth, h 9999]
theorem isSame (n : Int) (w : World) : Calls Tryz.prog 12 #[.iface 45 (.int .i64 n), .iface 45 (.int .i64 n)] w fun e w' => e = .returned (.bool true) ∧ w' = w := by
 have h8 := @run_callFunc_extern Tryz.prog 28 _ Extern.ReflectliteType.typeOf Tryz.func28 (by kernel_rfl) (by kernel_rfl) (by kernel_rfl) (by kernel_rfl)
 have h32 := @run_callFunc_extern Tryz.prog 127 _ (Extern.ReflectliteType.method fun t => do Extern.Rtype.noPackHeld "Comparable" t; pure (.bool (← typeInfo t).comparable)) Tryz.func127 (by kernel_rfl) (by kernel_rfl) (by kernel_rfl) (by kernel_rfl)
 obtain ⟨H, hT, hC⟩ : ∃ H : Value, (∀ (v : Value) (w : World), (callFunc 28 #[.iface 45 v]).run Tryz.prog w = .ok (.value (.iface 89 H)) w) ∧ (∀ w : World, (callFunc 127 #[H]).run Tryz.prog w = .ok (.value (.bool true)) w) := ⟨_, fun v w => by rw [h8, tT]; rfl, fun w => by rw [h32, cT]; rfl⟩
 clear h8 h32
 have mR := mR
 have heq := eqErr n w
 have hnil := nilErr (.int .i64 n) w
 go_enter Tryz.func12, Tryz.ntmps12
 go_wp2
 refine wp_loop_rounds 1 ?_
 rw [rounds_succ]
 go_wp2
 go_ret
 exact ⟨rfl, rfl⟩
theorem errIs_spec (n : Int) (S : MS) : MCalls Tryz.prog 12 [.iface 45 (.int .i64 n), .iface 45 (.int .i64 n)] S fun v σ' => v = .bool true ∧ σ' = S := by
 intro g w vs hrel hrd
 obtain ⟨u, us, rfl, h1, h2⟩ := hrd.uncons
 obtain ⟨u2, us2, rfl, h3, h4⟩ := h2.uncons
 obtain ⟨a, rfl, ha⟩ := h1.inv_iface
 obtain ⟨b, rfl, hb⟩ := h3.inv_iface
 have e1 := ha.inv_int
 have e2 := hb.inv_int
 have e3 : us2 = [] := List.eq_nil_of_length_eq_zero h4.1
 subst e1 e2 e3
 refine (callsIn_wide.2 (isSame n w)).mono ?_
 rintro e w' ⟨rfl, rfl⟩
 exact ⟨_, rfl, .bool true, S, g, ⟨rfl, rfl⟩, hrel, .bool _, .refl _ _⟩
theorem _root_.zY4 : type_of% @errIs_spec := @errIs_spec
theorem nilErr2 (v : Value) (w : World) : (binOp .eql 37 .nilIface (.iface 45 v)).run Tryz.prog w = .ok (.bool false) w := by
 have h : ∀ d : Nat, (Op.equalIn (d + 1) 37 .nilIface (.iface 45 v)).run Tryz.prog w = .ok false w := fun d => by simp [Op.equalIn, run_underlying zG0]
 simp only [binOp]
 simp [Op.equal, Op.maxDepth, h 9999]
theorem nilNil (w : World) : (binOp .eql 37 .nilIface .nilIface).run Tryz.prog w = .ok (.bool true) w := by
 have h : ∀ d : Nat, (Op.equalIn (d + 1) 37 .nilIface .nilIface).run Tryz.prog w = .ok true w := fun d => by simp [Op.equalIn, run_underlying zG0]
 simp only [binOp]
 simp [Op.equal, Op.maxDepth, h 9999]
theorem isNone (m : Int) (w : World) : Calls Tryz.prog 12 #[.nilIface, .iface 45 (.int .i64 m)] w fun e w' => e = .returned (.bool false) ∧ w' = w := by
 have h1 := nilNil w
 have h2 := nilErr2 (.int .i64 m) w
 go_enter Tryz.func12, Tryz.ntmps12
 go_wp2
 go_ret
 exact ⟨rfl, rfl⟩
end Go.Proofs.YtplclefbiimnbaaGreat
namespace Go.Proofs.YtplclefbiimnbaaGreat
open Go Go.MV Go.RowKit
structure RdT {γ : Type} (id l : Nat) (T : RdS → γ → MS) : Prop where
 get : ∀ r c, (T r c)[id]? = some (rdO r)
 set : ∀ r r' c, (T r c).set id (rdO r') = T r' c
 len : ∀ r c, (T r c).length = l
 cls : ∀ r c, ClS (T r c)
def rowGoC {α γ : Type} (f : RdS → γ → α × RdS × γ) : Nat → List α → RdS → γ → List α × RdS × γ
 | 0, acc, r, c => (acc, r, c)
 | k + 1, acc, r, c => if r.2.isSome then ([], r, c) else rowGoC f k (acc ++ [(f r c).1]) (f r c).2.1 (f r c).2.2
def rowStart (r : RdS) : RdS := if 40 < (numM r).1 then failR 13 (numM r).2 else (numM r).2
def rowC {α γ : Type} (f : RdS → γ → α × RdS × γ) (r : RdS) (c : γ) : List α × RdS × γ := rowGoC f (numM r).1 [] (rowStart r) c
def OneOk {α γ : Type} (I : Nat → γ → Prop) (kc : FuncId) (fi ca : List MV) (en : α → MV) (T : RdS → γ → MS) (f : RdS → γ → α × RdS × γ) : Prop := ∀ j r c L, j < 40 → I j c → r.1.length ≤ 8000000 → r.2 = none → MCalls Tryz.prog kc (fi ++ [] ++ ca) (T r c ++ L) fun v σ' => v = en (f r c).1 ∧ σ' = T (f r c).2.1 (f r c).2.2 ++ L
theorem rowStart_len (r : RdS) : (rowStart r).1.length ≤ r.1.length := by
 have := (zV2 r).1
 unfold rowStart
 split <;> exact this
theorem _root_.zU3 : type_of% @rowStart_len := @rowStart_len
theorem get_lastO {A : MS} {l : Nat} {o : MObj} (h : A.length = l) : (A ++ [o])[l]? = some o := by subst h; simp
theorem _root_.zH5 : type_of% @get_lastO := @get_lastO
theorem set_lastO {A : MS} {l : Nat} {o p : MObj} (h : A.length = l) : (A ++ [o]).set l p = A ++ [p] := by subst h; simp
theorem add_u64 {k : Nat} (h : k + 1 < 18446744073709551616) : intArith .add .u64 (k : Int) 1 = some ((k + 1 : Nat) : Int) := by
 show some (IntKind.u64.wrap ((k : Int) + 1)) = _
 rw [zJ3 (by omega)]
 rfl
theorem cl_encT' (n : Nat) (t : Tk) : Cl n (encT t) := .agg _ fun x hx => by
 rcases List.mem_cons.1 hx with rfl | hx
 ·exact .int _ _
 ·rcases List.mem_cons.1 hx with rfl | hx
  ·exact .int _ _
  ·cases hx
theorem cl_encX' (n : Nat) (s : Bs) : Cl n (encX s) := .str _
theorem encX_one' (s : Bs) : encX s = .agg (encX s).cells ∨ [encX s] = (encX s).cells := .inr rfl
theorem encT_one' (t : Tk) : encT t = .agg (encT t).cells ∨ [encT t] = (encT t).cells := .inl rfl
theorem encV_one' (x : Val) : encV x = .agg (encV x).cells ∨ [encV x] = (encV x).cells := by cases x; exact .inl rfl
theorem own_getS {S S1 L : MS} {k : Nat} (h : S1.length = S.length) : (S1 ++ L)[S.length + k]? = L[k]? := by rw [← h, getElem?_own]
theorem own_setS {S S1 L : MS} {k : Nat} {o : MObj} (h : S1.length = S.length) : (S1 ++ L).set (S.length + k) o = S1 ++ L.set k o := by rw [← h, zY3]
theorem ret_cellS {P : Program} {fn : Func} {S S' L : MS} {R : MV → MS → Prop} {env : Env} {e : Exit} {a t k off : Nat} {l : List MV} {ta : Option Nat} {x y : MV} (hlen : S'.length = S.length) (he : e = .normal ∨ e = .ret) (hres : fn.results = #[.cell a t]) (ha : get env a = some (.ref (S.length + k) off)) (hl : L[k]? = some (.cells l)) (ht : tyAgg P t = some ta) (hm : loadMV ta l off = some x) (hs : Sub x y) (hc : Cl S'.length y) (hS : ClS S') (hR : R y S') : BodyQ P fn S R e env (S' ++ L) := by
 refine ⟨he, [x], y, S', L, ?_, hs, hc, rfl, by omega, .inr hS, hR⟩
 rw [hres]
 exact .cell ha (by rw [own_getS hlen]; exact hl) ht hm .nil
theorem _root_.zB2 : type_of% @ret_cellS := @ret_cellS
theorem _root_.zA0 : type_of% @Tryz.underlying26 := @Tryz.underlying26
theorem rowX_spec {γ : Type} {id l : Nat} {T : RdS → γ → MS} (hT : RdT id l T) {kc : FuncId} (hco : CallOk Tryz.prog kc) {fi ca : List MV} {f : RdS → γ → Bs × RdS × γ} {I : Nat → γ → Prop} {c0 : γ} (hI0 : I 0 c0) (hIs : ∀ j r c, I j c → I (j + 1) (f r c).2.2) (hone : OneOk I kc fi ca encX T f) (hfl : ∀ r c, (f r c).2.1.1.length ≤ r.1.length) (r0 : RdS) (hlen : r0.1.length ≤ 8000000) : MCalls Tryz.prog 43 [.ref id 0, .fn (.func kc) fi ca] (T r0 c0) fun v σ' => v = .lst none 1 ((rowC f r0 c0).1.map encX) ∧ σ' = T (rowC f r0 c0).2.1 (rowC f r0 c0).2.2 := by
 have hnl := zV2 r0
 refine zN Tryz.func43 V Tryz.ntmps43 (zB V) ?_
 refine zA <| qR V <| qA V V V <| qN <| zA <| qR V <| qM V V V ?_
 refine qX V V V V co42 ((zU2 id).sl (hT.get r0 c0) hlen) ?_
 rw [hT.set]
 refine qA V V V <| qN <| zA <| zA <| qR V <| qM V V V <| qC V V V V V <| qN ?_
 refine zE V (fun h10 => ?_) (fun h10 => ?_)
 ·
  have hstart : rowStart r0 = failR 13 (numM r0).2 := if_pos (by simp at h10; omega)
  refine qR V <| qM V V V ?_
  refine qX V V V V co24 (zK2 id (numM r0).2 (T (numM r0).2 c0) [] (hT.get _ _) _) ?_
  rw [hT.set]
  refine qN <| zA <| qR V <| qA V V V <| qN <| zA <| zA ?_
  rw [show T _ c0 ++ [] = T (rowStart r0) c0 ++ [] by rw [hstart]]
  refine qR V <| qM V V V <| qM V V V <| qN <| zW <| mwp_row0 6 9 1 V (by rw [hT.len, hT.len]; exact Nat.le_refl _) V V ?_
  show mwp _ _ _ _ _ _ _ (([] : MS) ++ (T (rowStart r0) c0 ++ [.row 9 1 0]))
  refine zD1 (α := Nat × List (Bs) × RdS × γ) [(0, _), (1, _), (13, _)] (fun x => [(6, .lst (some l) 1 (x.2.1.map encX)), (14, .int .u64 (x.1 : Int))]) (fun x => (T x.2.2.1 x.2.2.2 ++ [.row 9 1 x.2.1.length])) (fun x => x.1 ≤ (numM r0).1 ∧ x.2.1.length = x.1 ∧ ((numM r0).1 ≤ 40 ∨ x.2.2.1.2.isSome = true) ∧ x.2.2.1.1.length ≤ 8000000 ∧ I x.1 x.2.2.2 ∧ rowGoC f ((numM r0).1 - x.1) x.2.1 x.2.2.1 x.2.2.2 = rowC f r0 c0) (fun x => (numM r0).1 - x.1) (⟨0, [], rowStart r0, c0⟩) (.keep V (.keep V (.keep V (.nil)))) (.eq V (by rw [hT.len]; rfl) (.keep V (.nil))) (⟨by simp, rfl, by unfold rowStart; split; exact .inr (by simp [failR]; cases (numM r0).2.2 <;> rfl); exact .inl (by omega), by have := zU3 r0; dsimp only; omega, hI0, rfl⟩) (V) ?_
  rintro ⟨k, acc, ⟨b, e⟩, c⟩ ⟨hk, hal, h40, hbl, hi, he⟩
  dsimp only at hk hal h40 hbl hi he ⊢
  have hg := zO3 (L := [MObj.row 9 1 acc.length]) (hT.get (b, e) c)
  refine zA <| qR V <| qC V V V V V <| qN <| zA ?_
  refine zE V (fun h15 => ?_) (fun h15 => ?_)
  ·
   have hlt : k < (numM r0).1 := by simp at h15; omega
   refine zQ <| zA <| zW <| zA <| zA ?_
   rcases e with _ | e
   ·
    have h40' : (numM r0).1 ≤ 40 := by rcases h40 with h | h; exact h; cases h
    replace hg : (T (b, none) c ++ [MObj.row 9 1 acc.length])[id]? = some (.cells [.str (bs b), .iface0]) := hg
    refine qR V <| qM V V V <| qO V <| zE0 V V V <| qF V V V zH2 <| qO V <| zR0 V V hg ta37 V <| qO V <| zC4 V zG0 V V (.inr Vv) <| qN <| zJ V (V) <| zQ <| qR V <| qM V V V <| qM V V V ?_
    refine zH3 V (zX0 V V V hco ((hone k (b, none) c _ (by omega) hi hbl V).mono ?_))
    rintro _ _ ⟨rfl, rfl⟩
    refine qO V <| zI1 V zA0 el9 V V (by decide) (by decide) V V ?_
    refine qO V <| zR4 V zA0 el9 V V (zH5 (hT.len _ _)) (by simp) (by simp; omega) (by simp; omega) ?_
    rw [set_lastO (hT.len _ _)]
    refine qA V V V <| qN <| qR V <| qO V <| zU0 V V V (add_u64 (by omega)) ?_
    refine qM V V V <| qN ?_
    refine ⟨⟨k + 1, acc ++ [(f (b, none) c).1], (f (b, none) c).2.1, (f (b, none) c).2.2⟩, by dsimp only; omega, ⟨by dsimp only; omega, by simp [hal], .inl h40', by dsimp only; have := hfl (b, none) c; dsimp only at this; omega, hIs _ _ _ hi, by dsimp only; rw [← he, show (numM r0).1 - k = ((numM r0).1 - (k + 1)) + 1 by omega, rowGoC, if_neg (by simp)]⟩, by rw [zF]; rfl, (.keep V (.keep V (.keep V (.nil)))), (.eq V (by rw [List.map_append]; rfl) (.eq V (V) (.nil)))⟩
   ·
    replace hg : (T (b, some e) c ++ [MObj.row 9 1 acc.length])[id]? = some (.cells [.str (bs b), .iface 45 (.int .i64 e)]) := hg
    have hE : rowC f r0 c0 = ([], (b, some e), c) := by rw [← he, show (numM r0).1 - k = ((numM r0).1 - (k + 1)) + 1 by omega, rowGoC]; exact if_pos rfl
    refine qR V <| qM V V V <| qO V <| zE0 V V V <| qF V V V zH2 <| qO V <| zR0 V V hg ta37 V <| qO V <| zY2 V zG0 V V (.inr Vv) <| qN <| zX V (V) <| zA <| qR V <| qA V V V <| qN <| zG ?_
    exact zE2 (S' := T (b, some e) c) (.inr V) Tryz.results43 V (Sub.nil 1) (.lst _ _ _ (fun t ht => by cases ht) (fun y hy => by cases hy)) (by rw [hT.len, hT.len]; exact Nat.le_refl _) (hT.cls _ _) ⟨by rw [hE]; try rfl, by rw [hE]⟩
  ·
   have hge : k = (numM r0).1 := by simp at h15; omega
   have hE : rowC f r0 c0 = (acc, (b, e), c) := by rw [← he, hge, Nat.sub_self]; rfl
   refine zA1 <| zA <| qR V <| qM V V V <| qA V V V <| qN <| zG ?_
   exact zE2 (S' := T (b, e) c) (.inr V) Tryz.results43 V (.view _ _ _) (cl_lst (cl_encX' _) (encX_one')) (by rw [hT.len, hT.len]; exact Nat.le_refl _) (hT.cls _ _) ⟨by rw [hE]; try rfl, by rw [hE]⟩
 ·
  have hstart : rowStart r0 = (numM r0).2 := if_neg (by simp at h10; omega)
  refine zQ <| zA <| qR V <| qA V V V <| qN <| zA <| zA ?_
  rw [show T _ c0 ++ [] = T (rowStart r0) c0 ++ [] by rw [hstart]]
  refine qR V <| qM V V V <| qM V V V <| qN <| zW <| mwp_row0 6 9 1 V (by rw [hT.len, hT.len]; exact Nat.le_refl _) V V ?_
  show mwp _ _ _ _ _ _ _ (([] : MS) ++ (T (rowStart r0) c0 ++ [.row 9 1 0]))
  refine zD1 (α := Nat × List (Bs) × RdS × γ) [(0, _), (1, _), (13, _)] (fun x => [(6, .lst (some l) 1 (x.2.1.map encX)), (14, .int .u64 (x.1 : Int))]) (fun x => (T x.2.2.1 x.2.2.2 ++ [.row 9 1 x.2.1.length])) (fun x => x.1 ≤ (numM r0).1 ∧ x.2.1.length = x.1 ∧ ((numM r0).1 ≤ 40 ∨ x.2.2.1.2.isSome = true) ∧ x.2.2.1.1.length ≤ 8000000 ∧ I x.1 x.2.2.2 ∧ rowGoC f ((numM r0).1 - x.1) x.2.1 x.2.2.1 x.2.2.2 = rowC f r0 c0) (fun x => (numM r0).1 - x.1) (⟨0, [], rowStart r0, c0⟩) (.keep V (.keep V (.keep V (.nil)))) (.eq V (by rw [hT.len]; rfl) (.keep V (.nil))) (⟨by simp, rfl, by unfold rowStart; split; exact .inr (by simp [failR]; cases (numM r0).2.2 <;> rfl); exact .inl (by omega), by have := zU3 r0; dsimp only; omega, hI0, rfl⟩) (V) ?_
  rintro ⟨k, acc, ⟨b, e⟩, c⟩ ⟨hk, hal, h40, hbl, hi, he⟩
  dsimp only at hk hal h40 hbl hi he ⊢
  have hg := zO3 (L := [MObj.row 9 1 acc.length]) (hT.get (b, e) c)
  refine zA <| qR V <| qC V V V V V <| qN <| zA ?_
  refine zE V (fun h15 => ?_) (fun h15 => ?_)
  ·
   have hlt : k < (numM r0).1 := by simp at h15; omega
   refine zQ <| zA <| zW <| zA <| zA ?_
   rcases e with _ | e
   ·
    have h40' : (numM r0).1 ≤ 40 := by rcases h40 with h | h; exact h; cases h
    replace hg : (T (b, none) c ++ [MObj.row 9 1 acc.length])[id]? = some (.cells [.str (bs b), .iface0]) := hg
    refine qR V <| qM V V V <| qO V <| zE0 V V V <| qF V V V zH2 <| qO V <| zR0 V V hg ta37 V <| qO V <| zC4 V zG0 V V (.inr Vv) <| qN <| zJ V (V) <| zQ <| qR V <| qM V V V <| qM V V V ?_
    refine zH3 V (zX0 V V V hco ((hone k (b, none) c _ (by omega) hi hbl V).mono ?_))
    rintro _ _ ⟨rfl, rfl⟩
    refine qO V <| zI1 V zA0 el9 V V (by decide) (by decide) V V ?_
    refine qO V <| zR4 V zA0 el9 V V (zH5 (hT.len _ _)) (by simp) (by simp; omega) (by simp; omega) ?_
    rw [set_lastO (hT.len _ _)]
    refine qA V V V <| qN <| qR V <| qO V <| zU0 V V V (add_u64 (by omega)) ?_
    refine qM V V V <| qN ?_
    refine ⟨⟨k + 1, acc ++ [(f (b, none) c).1], (f (b, none) c).2.1, (f (b, none) c).2.2⟩, by dsimp only; omega, ⟨by dsimp only; omega, by simp [hal], .inl h40', by dsimp only; have := hfl (b, none) c; dsimp only at this; omega, hIs _ _ _ hi, by dsimp only; rw [← he, show (numM r0).1 - k = ((numM r0).1 - (k + 1)) + 1 by omega, rowGoC, if_neg (by simp)]⟩, by rw [zF]; rfl, (.keep V (.keep V (.keep V (.nil)))), (.eq V (by rw [List.map_append]; rfl) (.eq V (V) (.nil)))⟩
   ·
    replace hg : (T (b, some e) c ++ [MObj.row 9 1 acc.length])[id]? = some (.cells [.str (bs b), .iface 45 (.int .i64 e)]) := hg
    have hE : rowC f r0 c0 = ([], (b, some e), c) := by rw [← he, show (numM r0).1 - k = ((numM r0).1 - (k + 1)) + 1 by omega, rowGoC]; exact if_pos rfl
    refine qR V <| qM V V V <| qO V <| zE0 V V V <| qF V V V zH2 <| qO V <| zR0 V V hg ta37 V <| qO V <| zY2 V zG0 V V (.inr Vv) <| qN <| zX V (V) <| zA <| qR V <| qA V V V <| qN <| zG ?_
    exact zE2 (S' := T (b, some e) c) (.inr V) Tryz.results43 V (Sub.nil 1) (.lst _ _ _ (fun t ht => by cases ht) (fun y hy => by cases hy)) (by rw [hT.len, hT.len]; exact Nat.le_refl _) (hT.cls _ _) ⟨by rw [hE]; try rfl, by rw [hE]⟩
  ·
   have hge : k = (numM r0).1 := by simp at h15; omega
   have hE : rowC f r0 c0 = (acc, (b, e), c) := by rw [← he, hge, Nat.sub_self]; rfl
   refine zA1 <| zA <| qR V <| qM V V V <| qA V V V <| qN <| zG ?_
   exact zE2 (S' := T (b, e) c) (.inr V) Tryz.results43 V (.view _ _ _) (cl_lst (cl_encX' _) (encX_one')) (by rw [hT.len, hT.len]; exact Nat.le_refl _) (hT.cls _ _) ⟨by rw [hE]; try rfl, by rw [hE]⟩
theorem _root_.zM : type_of% @Tryz.underlying68 := @Tryz.underlying68
theorem rowT_spec {γ : Type} {id l : Nat} {T : RdS → γ → MS} (hT : RdT id l T) {kc : FuncId} (hco : CallOk Tryz.prog kc) {fi ca : List MV} {f : RdS → γ → Tk × RdS × γ} {I : Nat → γ → Prop} {c0 : γ} (hI0 : I 0 c0) (hIs : ∀ j r c, I j c → I (j + 1) (f r c).2.2) (hone : OneOk I kc fi ca encT T f) (hfl : ∀ r c, (f r c).2.1.1.length ≤ r.1.length) (r0 : RdS) (hlen : r0.1.length ≤ 8000000) : MCalls Tryz.prog 70 [.ref id 0, .fn (.func kc) fi ca] (T r0 c0) fun v σ' => v = .lst none 2 ((rowC f r0 c0).1.map encT) ∧ σ' = T (rowC f r0 c0).2.1 (rowC f r0 c0).2.2 := by
 have hnl := zV2 r0
 refine zN Tryz.func70 V Tryz.ntmps70 (zB V) ?_
 refine zA <| qR V <| qA V V V <| qN <| zA <| qR V <| qM V V V ?_
 refine qX V V V V co42 ((zU2 id).sl (hT.get r0 c0) hlen) ?_
 rw [hT.set]
 refine qA V V V <| qN <| zA <| zA <| qR V <| qM V V V <| qC V V V V V <| qN ?_
 refine zE V (fun h10 => ?_) (fun h10 => ?_)
 ·
  have hstart : rowStart r0 = failR 13 (numM r0).2 := if_pos (by simp at h10; omega)
  refine qR V <| qM V V V ?_
  refine qX V V V V co24 (zK2 id (numM r0).2 (T (numM r0).2 c0) [] (hT.get _ _) _) ?_
  rw [hT.set]
  refine qN <| zA <| qR V <| qA V V V <| qN <| zA <| zA ?_
  rw [show T _ c0 ++ [] = T (rowStart r0) c0 ++ [] by rw [hstart]]
  refine qR V <| qM V V V <| qM V V V <| qN <| zW <| mwp_row0 6 87 2 V (by rw [hT.len, hT.len]; exact Nat.le_refl _) V V ?_
  show mwp _ _ _ _ _ _ _ (([] : MS) ++ (T (rowStart r0) c0 ++ [.row 87 2 0]))
  refine zD1 (α := Nat × List (Tk) × RdS × γ) [(0, _), (1, _), (13, _)] (fun x => [(6, .lst (some l) 2 (x.2.1.map encT)), (14, .int .u64 (x.1 : Int))]) (fun x => (T x.2.2.1 x.2.2.2 ++ [.row 87 2 x.2.1.length])) (fun x => x.1 ≤ (numM r0).1 ∧ x.2.1.length = x.1 ∧ ((numM r0).1 ≤ 40 ∨ x.2.2.1.2.isSome = true) ∧ x.2.2.1.1.length ≤ 8000000 ∧ I x.1 x.2.2.2 ∧ rowGoC f ((numM r0).1 - x.1) x.2.1 x.2.2.1 x.2.2.2 = rowC f r0 c0) (fun x => (numM r0).1 - x.1) (⟨0, [], rowStart r0, c0⟩) (.keep V (.keep V (.keep V (.nil)))) (.eq V (by rw [hT.len]; rfl) (.keep V (.nil))) (⟨by simp, rfl, by unfold rowStart; split; exact .inr (by simp [failR]; cases (numM r0).2.2 <;> rfl); exact .inl (by omega), by have := zU3 r0; dsimp only; omega, hI0, rfl⟩) (V) ?_
  rintro ⟨k, acc, ⟨b, e⟩, c⟩ ⟨hk, hal, h40, hbl, hi, he⟩
  dsimp only at hk hal h40 hbl hi he ⊢
  have hg := zO3 (L := [MObj.row 87 2 acc.length]) (hT.get (b, e) c)
  refine zA <| qR V <| qC V V V V V <| qN <| zA ?_
  refine zE V (fun h15 => ?_) (fun h15 => ?_)
  ·
   have hlt : k < (numM r0).1 := by simp at h15; omega
   refine zQ <| zA <| zW <| zA <| zA ?_
   rcases e with _ | e
   ·
    have h40' : (numM r0).1 ≤ 40 := by rcases h40 with h | h; exact h; cases h
    replace hg : (T (b, none) c ++ [MObj.row 87 2 acc.length])[id]? = some (.cells [.str (bs b), .iface0]) := hg
    refine qR V <| qM V V V <| qO V <| zE0 V V V <| qF V V V zH2 <| qO V <| zR0 V V hg ta37 V <| qO V <| zC4 V zG0 V V (.inr Vv) <| qN <| zJ V (V) <| zQ <| qR V <| qM V V V <| qM V V V ?_
    refine zH3 V (zX0 V V V hco ((hone k (b, none) c _ (by omega) hi hbl V).mono ?_))
    rintro _ _ ⟨rfl, rfl⟩
    refine qO V <| zI1 V zM el87 V V (by decide) (by decide) V V ?_
    refine qO V <| zR4 V zM el87 V V (zH5 (hT.len _ _)) (by simp) (by simp; omega) (by simp; omega) ?_
    rw [set_lastO (hT.len _ _)]
    refine qA V V V <| qN <| qR V <| qO V <| zU0 V V V (add_u64 (by omega)) ?_
    refine qM V V V <| qN ?_
    refine ⟨⟨k + 1, acc ++ [(f (b, none) c).1], (f (b, none) c).2.1, (f (b, none) c).2.2⟩, by dsimp only; omega, ⟨by dsimp only; omega, by simp [hal], .inl h40', by dsimp only; have := hfl (b, none) c; dsimp only at this; omega, hIs _ _ _ hi, by dsimp only; rw [← he, show (numM r0).1 - k = ((numM r0).1 - (k + 1)) + 1 by omega, rowGoC, if_neg (by simp)]⟩, by rw [zF]; rfl, (.keep V (.keep V (.keep V (.nil)))), (.eq V (by rw [List.map_append]; rfl) (.eq V (V) (.nil)))⟩
   ·
    replace hg : (T (b, some e) c ++ [MObj.row 87 2 acc.length])[id]? = some (.cells [.str (bs b), .iface 45 (.int .i64 e)]) := hg
    have hE : rowC f r0 c0 = ([], (b, some e), c) := by rw [← he, show (numM r0).1 - k = ((numM r0).1 - (k + 1)) + 1 by omega, rowGoC]; exact if_pos rfl
    refine qR V <| qM V V V <| qO V <| zE0 V V V <| qF V V V zH2 <| qO V <| zR0 V V hg ta37 V <| qO V <| zY2 V zG0 V V (.inr Vv) <| qN <| zX V (V) <| zA <| qR V <| qA V V V <| qN <| zG ?_
    exact zE2 (S' := T (b, some e) c) (.inr V) Tryz.results70 V (Sub.nil 2) (.lst _ _ _ (fun t ht => by cases ht) (fun y hy => by cases hy)) (by rw [hT.len, hT.len]; exact Nat.le_refl _) (hT.cls _ _) ⟨by rw [hE]; try rfl, by rw [hE]⟩
  ·
   have hge : k = (numM r0).1 := by simp at h15; omega
   have hE : rowC f r0 c0 = (acc, (b, e), c) := by rw [← he, hge, Nat.sub_self]; rfl
   refine zA1 <| zA <| qR V <| qM V V V <| qA V V V <| qN <| zG ?_
   exact zE2 (S' := T (b, e) c) (.inr V) Tryz.results70 V (.view _ _ _) (cl_lst (cl_encT' _) (encT_one')) (by rw [hT.len, hT.len]; exact Nat.le_refl _) (hT.cls _ _) ⟨by rw [hE]; try rfl, by rw [hE]⟩
 ·
  have hstart : rowStart r0 = (numM r0).2 := if_neg (by simp at h10; omega)
  refine zQ <| zA <| qR V <| qA V V V <| qN <| zA <| zA ?_
  rw [show T _ c0 ++ [] = T (rowStart r0) c0 ++ [] by rw [hstart]]
  refine qR V <| qM V V V <| qM V V V <| qN <| zW <| mwp_row0 6 87 2 V (by rw [hT.len, hT.len]; exact Nat.le_refl _) V V ?_
  show mwp _ _ _ _ _ _ _ (([] : MS) ++ (T (rowStart r0) c0 ++ [.row 87 2 0]))
  refine zD1 (α := Nat × List (Tk) × RdS × γ) [(0, _), (1, _), (13, _)] (fun x => [(6, .lst (some l) 2 (x.2.1.map encT)), (14, .int .u64 (x.1 : Int))]) (fun x => (T x.2.2.1 x.2.2.2 ++ [.row 87 2 x.2.1.length])) (fun x => x.1 ≤ (numM r0).1 ∧ x.2.1.length = x.1 ∧ ((numM r0).1 ≤ 40 ∨ x.2.2.1.2.isSome = true) ∧ x.2.2.1.1.length ≤ 8000000 ∧ I x.1 x.2.2.2 ∧ rowGoC f ((numM r0).1 - x.1) x.2.1 x.2.2.1 x.2.2.2 = rowC f r0 c0) (fun x => (numM r0).1 - x.1) (⟨0, [], rowStart r0, c0⟩) (.keep V (.keep V (.keep V (.nil)))) (.eq V (by rw [hT.len]; rfl) (.keep V (.nil))) (⟨by simp, rfl, by unfold rowStart; split; exact .inr (by simp [failR]; cases (numM r0).2.2 <;> rfl); exact .inl (by omega), by have := zU3 r0; dsimp only; omega, hI0, rfl⟩) (V) ?_
  rintro ⟨k, acc, ⟨b, e⟩, c⟩ ⟨hk, hal, h40, hbl, hi, he⟩
  dsimp only at hk hal h40 hbl hi he ⊢
  have hg := zO3 (L := [MObj.row 87 2 acc.length]) (hT.get (b, e) c)
  refine zA <| qR V <| qC V V V V V <| qN <| zA ?_
  refine zE V (fun h15 => ?_) (fun h15 => ?_)
  ·
   have hlt : k < (numM r0).1 := by simp at h15; omega
   refine zQ <| zA <| zW <| zA <| zA ?_
   rcases e with _ | e
   ·
    have h40' : (numM r0).1 ≤ 40 := by rcases h40 with h | h; exact h; cases h
    replace hg : (T (b, none) c ++ [MObj.row 87 2 acc.length])[id]? = some (.cells [.str (bs b), .iface0]) := hg
    refine qR V <| qM V V V <| qO V <| zE0 V V V <| qF V V V zH2 <| qO V <| zR0 V V hg ta37 V <| qO V <| zC4 V zG0 V V (.inr Vv) <| qN <| zJ V (V) <| zQ <| qR V <| qM V V V <| qM V V V ?_
    refine zH3 V (zX0 V V V hco ((hone k (b, none) c _ (by omega) hi hbl V).mono ?_))
    rintro _ _ ⟨rfl, rfl⟩
    refine qO V <| zI1 V zM el87 V V (by decide) (by decide) V V ?_
    refine qO V <| zR4 V zM el87 V V (zH5 (hT.len _ _)) (by simp) (by simp; omega) (by simp; omega) ?_
    rw [set_lastO (hT.len _ _)]
    refine qA V V V <| qN <| qR V <| qO V <| zU0 V V V (add_u64 (by omega)) ?_
    refine qM V V V <| qN ?_
    refine ⟨⟨k + 1, acc ++ [(f (b, none) c).1], (f (b, none) c).2.1, (f (b, none) c).2.2⟩, by dsimp only; omega, ⟨by dsimp only; omega, by simp [hal], .inl h40', by dsimp only; have := hfl (b, none) c; dsimp only at this; omega, hIs _ _ _ hi, by dsimp only; rw [← he, show (numM r0).1 - k = ((numM r0).1 - (k + 1)) + 1 by omega, rowGoC, if_neg (by simp)]⟩, by rw [zF]; rfl, (.keep V (.keep V (.keep V (.nil)))), (.eq V (by rw [List.map_append]; rfl) (.eq V (V) (.nil)))⟩
   ·
    replace hg : (T (b, some e) c ++ [MObj.row 87 2 acc.length])[id]? = some (.cells [.str (bs b), .iface 45 (.int .i64 e)]) := hg
    have hE : rowC f r0 c0 = ([], (b, some e), c) := by rw [← he, show (numM r0).1 - k = ((numM r0).1 - (k + 1)) + 1 by omega, rowGoC]; exact if_pos rfl
    refine qR V <| qM V V V <| qO V <| zE0 V V V <| qF V V V zH2 <| qO V <| zR0 V V hg ta37 V <| qO V <| zY2 V zG0 V V (.inr Vv) <| qN <| zX V (V) <| zA <| qR V <| qA V V V <| qN <| zG ?_
    exact zE2 (S' := T (b, some e) c) (.inr V) Tryz.results70 V (Sub.nil 2) (.lst _ _ _ (fun t ht => by cases ht) (fun y hy => by cases hy)) (by rw [hT.len, hT.len]; exact Nat.le_refl _) (hT.cls _ _) ⟨by rw [hE]; try rfl, by rw [hE]⟩
  ·
   have hge : k = (numM r0).1 := by simp at h15; omega
   have hE : rowC f r0 c0 = (acc, (b, e), c) := by rw [← he, hge, Nat.sub_self]; rfl
   refine zA1 <| zA <| qR V <| qM V V V <| qA V V V <| qN <| zG ?_
   exact zE2 (S' := T (b, e) c) (.inr V) Tryz.results70 V (.view _ _ _) (cl_lst (cl_encT' _) (encT_one')) (by rw [hT.len, hT.len]; exact Nat.le_refl _) (hT.cls _ _) ⟨by rw [hE]; try rfl, by rw [hE]⟩
theorem _root_.zT : type_of% @Tryz.underlying28 := @Tryz.underlying28
theorem rowV_spec {γ : Type} {id l : Nat} {T : RdS → γ → MS} (hT : RdT id l T) {kc : FuncId} (hco : CallOk Tryz.prog kc) {fi ca : List MV} {f : RdS → γ → Val × RdS × γ} {I : Nat → γ → Prop} {c0 : γ} (hI0 : I 0 c0) (hIs : ∀ j r c, I j c → I (j + 1) (f r c).2.2) (hone : OneOk I kc fi ca encV T f) (hfl : ∀ r c, (f r c).2.1.1.length ≤ r.1.length) (r0 : RdS) (hlen : r0.1.length ≤ 8000000) : MCalls Tryz.prog 45 [.ref id 0, .fn (.func kc) fi ca] (T r0 c0) fun v σ' => v = .lst none 5 ((rowC f r0 c0).1.map encV) ∧ σ' = T (rowC f r0 c0).2.1 (rowC f r0 c0).2.2 := by
 have hnl := zV2 r0
 refine zN Tryz.func45 V Tryz.ntmps45 (zB V) ?_
 refine zA <| qR V <| qA V V V <| qN <| zA <| qR V <| qM V V V ?_
 refine qX V V V V co42 ((zU2 id).sl (hT.get r0 c0) hlen) ?_
 rw [hT.set]
 refine qA V V V <| qN <| zA <| zA <| qR V <| qM V V V <| qC V V V V V <| qN ?_
 refine zE V (fun h10 => ?_) (fun h10 => ?_)
 ·
  have hstart : rowStart r0 = failR 13 (numM r0).2 := if_pos (by simp at h10; omega)
  refine qR V <| qM V V V ?_
  refine qX V V V V co24 (zK2 id (numM r0).2 (T (numM r0).2 c0) [] (hT.get _ _) _) ?_
  rw [hT.set]
  refine qN <| zA <| qR V <| qA V V V <| qN <| zA <| zA ?_
  rw [show T _ c0 ++ [] = T (rowStart r0) c0 ++ [] by rw [hstart]]
  refine qR V <| qM V V V <| qM V V V <| qN <| zW <| mwp_row0 6 30 5 V (by rw [hT.len, hT.len]; exact Nat.le_refl _) V V ?_
  show mwp _ _ _ _ _ _ _ (([] : MS) ++ (T (rowStart r0) c0 ++ [.row 30 5 0]))
  refine zD1 (α := Nat × List (Val) × RdS × γ) [(0, _), (1, _), (13, _)] (fun x => [(6, .lst (some l) 5 (x.2.1.map encV)), (14, .int .u64 (x.1 : Int))]) (fun x => (T x.2.2.1 x.2.2.2 ++ [.row 30 5 x.2.1.length])) (fun x => x.1 ≤ (numM r0).1 ∧ x.2.1.length = x.1 ∧ ((numM r0).1 ≤ 40 ∨ x.2.2.1.2.isSome = true) ∧ x.2.2.1.1.length ≤ 8000000 ∧ I x.1 x.2.2.2 ∧ rowGoC f ((numM r0).1 - x.1) x.2.1 x.2.2.1 x.2.2.2 = rowC f r0 c0) (fun x => (numM r0).1 - x.1) (⟨0, [], rowStart r0, c0⟩) (.keep V (.keep V (.keep V (.nil)))) (.eq V (by rw [hT.len]; rfl) (.keep V (.nil))) (⟨by simp, rfl, by unfold rowStart; split; exact .inr (by simp [failR]; cases (numM r0).2.2 <;> rfl); exact .inl (by omega), by have := zU3 r0; dsimp only; omega, hI0, rfl⟩) (V) ?_
  rintro ⟨k, acc, ⟨b, e⟩, c⟩ ⟨hk, hal, h40, hbl, hi, he⟩
  dsimp only at hk hal h40 hbl hi he ⊢
  have hg := zO3 (L := [MObj.row 30 5 acc.length]) (hT.get (b, e) c)
  refine zA <| qR V <| qC V V V V V <| qN <| zA ?_
  refine zE V (fun h15 => ?_) (fun h15 => ?_)
  ·
   have hlt : k < (numM r0).1 := by simp at h15; omega
   refine zQ <| zA <| zW <| zA <| zA ?_
   rcases e with _ | e
   ·
    have h40' : (numM r0).1 ≤ 40 := by rcases h40 with h | h; exact h; cases h
    replace hg : (T (b, none) c ++ [MObj.row 30 5 acc.length])[id]? = some (.cells [.str (bs b), .iface0]) := hg
    refine qR V <| qM V V V <| qO V <| zE0 V V V <| qF V V V zH2 <| qO V <| zR0 V V hg ta37 V <| qO V <| zC4 V zG0 V V (.inr Vv) <| qN <| zJ V (V) <| zQ <| qR V <| qM V V V <| qM V V V ?_
    refine zH3 V (zX0 V V V hco ((hone k (b, none) c _ (by omega) hi hbl V).mono ?_))
    rintro _ _ ⟨rfl, rfl⟩
    refine qO V <| zI1 V zT el30 V V (by decide) (by decide) (by cases (f (b, none) c).1; rfl) (by cases (f (b, none) c).1; rfl) ?_
    refine qO V <| zR4 V zT el30 V V (zH5 (hT.len _ _)) (by simp) (by simp; omega) (by simp; omega) ?_
    rw [set_lastO (hT.len _ _)]
    refine qA V V V <| qN <| qR V <| qO V <| zU0 V V V (add_u64 (by omega)) ?_
    refine qM V V V <| qN ?_
    refine ⟨⟨k + 1, acc ++ [(f (b, none) c).1], (f (b, none) c).2.1, (f (b, none) c).2.2⟩, by dsimp only; omega, ⟨by dsimp only; omega, by simp [hal], .inl h40', by dsimp only; have := hfl (b, none) c; dsimp only at this; omega, hIs _ _ _ hi, by dsimp only; rw [← he, show (numM r0).1 - k = ((numM r0).1 - (k + 1)) + 1 by omega, rowGoC, if_neg (by simp)]⟩, by rw [zF]; rfl, (.keep V (.keep V (.keep V (.nil)))), (.eq V (by rw [List.map_append]; rfl) (.eq V (V) (.nil)))⟩
   ·
    replace hg : (T (b, some e) c ++ [MObj.row 30 5 acc.length])[id]? = some (.cells [.str (bs b), .iface 45 (.int .i64 e)]) := hg
    have hE : rowC f r0 c0 = ([], (b, some e), c) := by rw [← he, show (numM r0).1 - k = ((numM r0).1 - (k + 1)) + 1 by omega, rowGoC]; exact if_pos rfl
    refine qR V <| qM V V V <| qO V <| zE0 V V V <| qF V V V zH2 <| qO V <| zR0 V V hg ta37 V <| qO V <| zY2 V zG0 V V (.inr Vv) <| qN <| zX V (V) <| zA <| qR V <| qA V V V <| qN <| zG ?_
    exact zE2 (S' := T (b, some e) c) (.inr V) Tryz.results45 V (Sub.nil 5) (.lst _ _ _ (fun t ht => by cases ht) (fun y hy => by cases hy)) (by rw [hT.len, hT.len]; exact Nat.le_refl _) (hT.cls _ _) ⟨by rw [hE]; try rfl, by rw [hE]⟩
  ·
   have hge : k = (numM r0).1 := by simp at h15; omega
   have hE : rowC f r0 c0 = (acc, (b, e), c) := by rw [← he, hge, Nat.sub_self]; rfl
   refine zA1 <| zA <| qR V <| qM V V V <| qA V V V <| qN <| zG ?_
   exact zE2 (S' := T (b, e) c) (.inr V) Tryz.results45 V (.view _ _ _) (cl_lst (zG2 _) (encV_one')) (by rw [hT.len, hT.len]; exact Nat.le_refl _) (hT.cls _ _) ⟨by rw [hE]; try rfl, by rw [hE]⟩
 ·
  have hstart : rowStart r0 = (numM r0).2 := if_neg (by simp at h10; omega)
  refine zQ <| zA <| qR V <| qA V V V <| qN <| zA <| zA ?_
  rw [show T _ c0 ++ [] = T (rowStart r0) c0 ++ [] by rw [hstart]]
  refine qR V <| qM V V V <| qM V V V <| qN <| zW <| mwp_row0 6 30 5 V (by rw [hT.len, hT.len]; exact Nat.le_refl _) V V ?_
  show mwp _ _ _ _ _ _ _ (([] : MS) ++ (T (rowStart r0) c0 ++ [.row 30 5 0]))
  refine zD1 (α := Nat × List (Val) × RdS × γ) [(0, _), (1, _), (13, _)] (fun x => [(6, .lst (some l) 5 (x.2.1.map encV)), (14, .int .u64 (x.1 : Int))]) (fun x => (T x.2.2.1 x.2.2.2 ++ [.row 30 5 x.2.1.length])) (fun x => x.1 ≤ (numM r0).1 ∧ x.2.1.length = x.1 ∧ ((numM r0).1 ≤ 40 ∨ x.2.2.1.2.isSome = true) ∧ x.2.2.1.1.length ≤ 8000000 ∧ I x.1 x.2.2.2 ∧ rowGoC f ((numM r0).1 - x.1) x.2.1 x.2.2.1 x.2.2.2 = rowC f r0 c0) (fun x => (numM r0).1 - x.1) (⟨0, [], rowStart r0, c0⟩) (.keep V (.keep V (.keep V (.nil)))) (.eq V (by rw [hT.len]; rfl) (.keep V (.nil))) (⟨by simp, rfl, by unfold rowStart; split; exact .inr (by simp [failR]; cases (numM r0).2.2 <;> rfl); exact .inl (by omega), by have := zU3 r0; dsimp only; omega, hI0, rfl⟩) (V) ?_
  rintro ⟨k, acc, ⟨b, e⟩, c⟩ ⟨hk, hal, h40, hbl, hi, he⟩
  dsimp only at hk hal h40 hbl hi he ⊢
  have hg := zO3 (L := [MObj.row 30 5 acc.length]) (hT.get (b, e) c)
  refine zA <| qR V <| qC V V V V V <| qN <| zA ?_
  refine zE V (fun h15 => ?_) (fun h15 => ?_)
  ·
   have hlt : k < (numM r0).1 := by simp at h15; omega
   refine zQ <| zA <| zW <| zA <| zA ?_
   rcases e with _ | e
   ·
    have h40' : (numM r0).1 ≤ 40 := by rcases h40 with h | h; exact h; cases h
    replace hg : (T (b, none) c ++ [MObj.row 30 5 acc.length])[id]? = some (.cells [.str (bs b), .iface0]) := hg
    refine qR V <| qM V V V <| qO V <| zE0 V V V <| qF V V V zH2 <| qO V <| zR0 V V hg ta37 V <| qO V <| zC4 V zG0 V V (.inr Vv) <| qN <| zJ V (V) <| zQ <| qR V <| qM V V V <| qM V V V ?_
    refine zH3 V (zX0 V V V hco ((hone k (b, none) c _ (by omega) hi hbl V).mono ?_))
    rintro _ _ ⟨rfl, rfl⟩
    refine qO V <| zI1 V zT el30 V V (by decide) (by decide) (by cases (f (b, none) c).1; rfl) (by cases (f (b, none) c).1; rfl) ?_
    refine qO V <| zR4 V zT el30 V V (zH5 (hT.len _ _)) (by simp) (by simp; omega) (by simp; omega) ?_
    rw [set_lastO (hT.len _ _)]
    refine qA V V V <| qN <| qR V <| qO V <| zU0 V V V (add_u64 (by omega)) ?_
    refine qM V V V <| qN ?_
    refine ⟨⟨k + 1, acc ++ [(f (b, none) c).1], (f (b, none) c).2.1, (f (b, none) c).2.2⟩, by dsimp only; omega, ⟨by dsimp only; omega, by simp [hal], .inl h40', by dsimp only; have := hfl (b, none) c; dsimp only at this; omega, hIs _ _ _ hi, by dsimp only; rw [← he, show (numM r0).1 - k = ((numM r0).1 - (k + 1)) + 1 by omega, rowGoC, if_neg (by simp)]⟩, by rw [zF]; rfl, (.keep V (.keep V (.keep V (.nil)))), (.eq V (by rw [List.map_append]; rfl) (.eq V (V) (.nil)))⟩
   ·
    replace hg : (T (b, some e) c ++ [MObj.row 30 5 acc.length])[id]? = some (.cells [.str (bs b), .iface 45 (.int .i64 e)]) := hg
    have hE : rowC f r0 c0 = ([], (b, some e), c) := by rw [← he, show (numM r0).1 - k = ((numM r0).1 - (k + 1)) + 1 by omega, rowGoC]; exact if_pos rfl
    refine qR V <| qM V V V <| qO V <| zE0 V V V <| qF V V V zH2 <| qO V <| zR0 V V hg ta37 V <| qO V <| zY2 V zG0 V V (.inr Vv) <| qN <| zX V (V) <| zA <| qR V <| qA V V V <| qN <| zG ?_
    exact zE2 (S' := T (b, some e) c) (.inr V) Tryz.results45 V (Sub.nil 5) (.lst _ _ _ (fun t ht => by cases ht) (fun y hy => by cases hy)) (by rw [hT.len, hT.len]; exact Nat.le_refl _) (hT.cls _ _) ⟨by rw [hE]; try rfl, by rw [hE]⟩
  ·
   have hge : k = (numM r0).1 := by simp at h15; omega
   have hE : rowC f r0 c0 = (acc, (b, e), c) := by rw [← he, hge, Nat.sub_self]; rfl
   refine zA1 <| zA <| qR V <| qM V V V <| qA V V V <| qN <| zG ?_
   exact zE2 (S' := T (b, e) c) (.inr V) Tryz.results45 V (.view _ _ _) (cl_lst (zG2 _) (encV_one')) (by rw [hT.len, hT.len]; exact Nat.le_refl _) (hT.cls _ _) ⟨by rw [hE]; try rfl, by rw [hE]⟩
theorem RdT.base {S : MS} {id : Nat} {r : RdS} (h : S[id]? = some (rdO r)) (hcl : ClS S) : RdT (γ := Unit) id S.length (fun r _ => S.set id (rdO r)) where
 get _ _ := zE3 h
 set _ _ _ := zI3
 len _ _ := by simp
 cls r _ := hcl.set (zG3 _ r)
def unitF {α : Type} (M : RdS → α × RdS) (r : RdS) (_ : Unit) : α × RdS × Unit := ((M r).1, (M r).2, ())
theorem rowGoC_unit {α : Type} (M : RdS → α × RdS) : ∀ k acc r, rowGoC (unitF M) k acc r () = ((rowGo M k acc r).1, (rowGo M k acc r).2, ())
 | 0, acc, r => rfl
 | k + 1, acc, r => by
  rw [rowGoC, rowGo]
  split
  ·rfl
  ·exact rowGoC_unit M k _ _
theorem OneOk.base {α : Type} {kc : FuncId} {fi ca : List MV} {en : α → MV} {M : RdS → α × RdS} {S : MS} {id : Nat} {r0 : RdS} (h : S[id]? = some (rdO r0)) (hm : Reads kc (fi ++ [] ++ ca) id en M) : OneOk (γ := Unit) (fun _ _ => True) kc fi ca en (fun r _ => S.set id (rdO r)) (unitF M) := fun _ r c L _ _ hl _ => by
 have := hm.sl (r := r) (S := S.set id (rdO r)) (L := L) (zE3 h) hl
 rw [zI3] at this
 exact this
theorem rowX_base {kc : FuncId} (hco : CallOk Tryz.prog kc) {fi ca : List MV} {M : RdS → Bs × RdS} {id : Nat} (hm : Reads kc (fi ++ [] ++ ca) id encX M) (hfl : ∀ r, (M r).2.1.length ≤ r.1.length) (r : RdS) (S : MS) (h : S[id]? = some (rdO r)) (hcl : ClS S) (hlen : r.1.length ≤ 8000000) : MCalls Tryz.prog 43 [.ref id 0, .fn (.func kc) fi ca] S fun v σ' => v = .lst none 1 ((rowM M r).1.map encX) ∧ σ' = S.set id (rdO (rowM M r).2) := by
 have := rowX_spec (c0 := ()) (RdT.base h hcl) hco trivial (fun _ _ _ _ => trivial) (OneOk.base h hm) (fun r _ => hfl r) r hlen
 simp only [set_self_rd h] at this
 rw [rowC, rowGoC_unit] at this
 exact this
theorem rowT_base {kc : FuncId} (hco : CallOk Tryz.prog kc) {fi ca : List MV} {M : RdS → Tk × RdS} {id : Nat} (hm : Reads kc (fi ++ [] ++ ca) id encT M) (hfl : ∀ r, (M r).2.1.length ≤ r.1.length) (r : RdS) (S : MS) (h : S[id]? = some (rdO r)) (hcl : ClS S) (hlen : r.1.length ≤ 8000000) : MCalls Tryz.prog 70 [.ref id 0, .fn (.func kc) fi ca] S fun v σ' => v = .lst none 2 ((rowM M r).1.map encT) ∧ σ' = S.set id (rdO (rowM M r).2) := by
 have := rowT_spec (c0 := ()) (RdT.base h hcl) hco trivial (fun _ _ _ _ => trivial) (OneOk.base h hm) (fun r _ => hfl r) r hlen
 simp only [set_self_rd h] at this
 rw [rowC, rowGoC_unit] at this
 exact this
theorem whoM_len (r : RdS) : (whoM r).2.1.length ≤ r.1.length := by
 have := (zV2 r).1
 unfold whoM
 split <;> exact this
theorem tickM_len (r : RdS) : (tickM r).2.1.length ≤ r.1.length := Nat.le_trans (zV2 _).1 (whoM_len r)
theorem _root_.zI5 : type_of% @Tryz.underlying87 := @Tryz.underlying87
theorem tick_reads (id : Nat) : Reads 71 [.ref id 0] id encT tickM := by
 intro r S h hlen
 have hnl := zV2 r
 refine zN Tryz.func71 V Tryz.ntmps71 (zB V) ?_
 refine zS0 fun _ hcl => ?_
 rw [List.append_nil] at hcl
 refine zA <| qR V <| qO V <| zH0 V zm87 V V <| qN <| zA <| qR V <| qM V V V ?_
 refine qX V V V V co42 ((zU2 id).sl h hlen) ?_
 refine qA V V V <| qN <| zA <| zA <| qR V <| qM V V V <| qC V V V V V <| qN ?_
 refine zE V (fun h7 => ?_) (fun h7 => ?_)
 ·
  have hw : whoM r = (0, failR 10 (numM r).2) := if_pos (by simp at h7; omega)
  refine zA <| qR V <| qM V V V ?_
  refine qX V V V V co24 (zK2 id (numM r).2 _ _ (zE3 h) _) ?_
  rw [zI3]
  refine qN <| qR V <| qA V V V <| qN <| zA <| qR V <| qM V V V <| qO V <| zR1 V zB1 zZ0 V (V) <| qM V V V ?_
  refine qX V V V V co42 ((zU2 id).sl (r := failR 10 (numM r).2) (zE3 h) (Nat.le_trans hnl.1 hlen)) ?_
  rw [zI3]
  refine qO V <| zA2 V zI5 zm87 (.cons zQ3 sz3 V V (zB V) (.cons zA5 sz25 V V (zB V) .nil)) (by kernel_rfl) ?_
  refine qO V <| zZ3 V V V ((own_getS (by simp)).trans V) sz87 V V (zB V) ?_
  rw [own_setS (by simp)]
  refine qN <| zG ?_
  exact zB2 (by simp) (.inr V) Tryz.results71 V V ta87 V (.refl _) (cl_encT' _ (_, _)) (hcl.set (zG3 _ _)) ⟨by rw [tickM, hw]; try rfl, by rw [tickM, hw]⟩
 ·
  have hbig : ¬ 1000000 < (numM r).1 := by simp at h7; omega
  have hw : whoM r = numM r := if_neg hbig
  refine zQ <| zA <| qR V <| qM V V V <| qO V <| zR1 V zB1 zZ0 V (zF3 (by omega)) ?_
  refine qM V V V ?_
  refine qX V V V V co42 ((zU2 id).sl (zE3 h) (Nat.le_trans hnl.1 hlen)) ?_
  rw [zI3]
  refine qO V <| zA2 V zI5 zm87 (.cons zQ3 sz3 V V (zB V) (.cons zA5 sz25 V V (zB V) .nil)) (by kernel_rfl) ?_
  refine qO V <| zZ3 V V V ((own_getS (by simp)).trans V) sz87 V V (zB V) ?_
  rw [own_setS (by simp)]
  refine qN <| zG ?_
  exact zB2 (by simp) (.inr V) Tryz.results71 V V ta87 V (.refl _) (cl_encT' _ (_, _)) (hcl.set (zG3 _ _)) ⟨by rw [tickM, hw]; try rfl, by rw [tickM, hw]⟩
theorem rowGo_len {α : Type} {M : RdS → α × RdS} (hM : ∀ r, (M r).2.1.length ≤ r.1.length) : ∀ k acc r, (rowGo M k acc r).2.1.length ≤ r.1.length
 | 0, acc, r => Nat.le_refl _
 | k + 1, acc, r => by
  rw [rowGo]
  split
  ·exact Nat.le_refl _
  ·exact Nat.le_trans (rowGo_len hM k _ _) (hM r)
theorem rowM_len {α : Type} {M : RdS → α × RdS} (hM : ∀ r, (M r).2.1.length ≤ r.1.length) (r : RdS) : (rowM M r).2.1.length ≤ r.1.length := Nat.le_trans (rowGo_len hM _ _ _) (zU3 r)
theorem clock_reads (id : Nat) : Reads 48 [.ref id 0] id encC clockM := by
 intro r S h hlen
 refine zN Tryz.func48 V Tryz.ntmps48 (zB V) ?_
 refine zS0 fun _ hcl => ?_
 have hcl0 := hcl
 rw [List.append_nil] at hcl
 refine zA <| qR V <| qA V V V <| qN <| zA <| qR V <| qM V V V <| qM V V V <| qO V <| zN1 V V V ?_
 refine qX V V V V co70 (rowT_base co71 (tick_reads id) tickM_len r _ (zO3 h) hcl0 hlen) ?_
 rw [set_sl h]
 refine qA V V V <| qN <| zG ?_
 exact zE2 (.inr V) Tryz.results48 V (.refl _) (cl_encC _ _) (by simp) (hcl.set (zG3 _ _)) Vv
end Go.Proofs.YtplclefbiimnbaaGreat
namespace Go.Proofs.YtplclefbiimnbaaGreat
open Go Go.MV
theorem gtr_nil {α : Type} {en : α → MV} : intCmp .gtr (((([] : List α).map en).length : Nat) : Int) 0 = some false := rfl
theorem gtr_cons {α : Type} {en : α → MV} {x : α} {l : List α} : intCmp .gtr ((((x :: l).map en).length : Nat) : Int) 0 = some true := by simp [intCmp]
theorem merge_cons {α : Type} {cmp : α → α → Int} {bo : α → α → α} {x y : α} {a b : List α} : mergeF cmp bo (x :: a) (y :: b) = if cmp x y < 0 then x :: mergeF cmp bo a (y :: b) else if cmp x y > 0 then y :: mergeF cmp bo (x :: a) b else bo x y :: mergeF cmp bo a b := by rw [mergeF]
theorem clkIs_spec (c : List Tk) (S : MS) : MCalls Tryz.prog 63 [.lst none 2 (c.map encT)] S fun v σ' => v = .bool (isClockF c) ∧ σ' = S := by
 refine zN Tryz.func63 V Tryz.ntmps63 (zB V) ?_
 refine zP2 (t := 0) V fun hlen => ?_
 rw [zH] at hlen
 refine zA <| qR V <| qA V V V <| qN <| zA <| zA <| qR V <| qM V V V <| qE V V zM V <| qM V V V <| qN <| zW ?_
 refine mwp_loopKJ (α := Nat) [(0, _), (5, _), (6, _)] (fun i => [(7, .int .i64 (i : Int))]) (fun i => []) (fun i => i ≤ c.length ∧ ∀ j, j < i → okAt c j = true) (fun i => c.length - i) (0) (Nat.le_refl _) (.keep V (.keep V (.keep V (.nil)))) (.keep V (.nil)) (⟨by omega, fun j hj => by omega⟩) (V) ?_
 rintro i ⟨hi, hall⟩
 refine zA <| qR V <| qC V V V V V <| qN <| zA ?_
 refine zE V (fun h8 => ?_) (fun h8 => ?_)
 ·
  have hlt : i < c.length := by simpa using h8
  obtain ⟨t, hs⟩ : ∃ q_, c[i]? = some q_ := ⟨_, zD hlt⟩
  refine zQ <| zA <| zW <| zA <| qR V <| qM V V V <| qO V <| zO V zM sz87 (by decide) V V V (zE1 hs) ?_
  refine qO V <| zP V V ta87 V <| qO V <| zH0 V zm87 V V <| qA V V V <| qO V <| zT0 V V V V sz87 V V (zB V) V <| qN <| zA ?_
  refine zV0 [] [_] mo (by decide) V V V V ?_
  refine dO V V V (zL V V zQ3 Vv) <| dO V V V (zL0 V V V ta3 V Vv) <| dO V V V (zX2 V V V V Vv) <| dO V V V (zY V V Vv) ?_
  refine zS2 (fun h15 => ?_) (fun h15 => ?_)
  ·
   refine dS V V <| dS V V <| dS V V <| dO V V V (zP1 V V V Vv) <| dO V V V (zY V V Vv) <| dS V V <| dS V V <| dS V V <| dO V V V (zP1 V V V Vv) <| dO V V V (zY V V Vv) <| dS V V <| dS V V <| dS V V <| dS V V <| dS V V <| dS V V <| dS V V <| dS V V <| dS V V <| dS V V <| dS V V <| dS V V <| dS V V <| dO V V V (zP1 V V V Vv) <| zO0 <| zX V (V) <| zA <| qR V <| qA V V V ?_
   refine qN <| zG ?_
   exact zK (.inr V) Tryz.results63 V (.of_eq (by rw [zK3 hlt (by simp_all [okAt] <;> omega)])) (.bool _) Vv
  ·
   refine dO V V V (zL V V zQ3 Vv) <| dO V V V (zL0 V V V ta3 V Vv) <| dO V V V (zX2 V V V V Vv) <| dO V V V (zP1 V V V Vv) <| dO V V V (zY V V Vv) ?_
   refine zS2 (fun h20 => ?_) (fun h20 => ?_)
   ·
    refine dS V V <| dS V V <| dS V V <| dO V V V (zP1 V V V Vv) <| dO V V V (zY V V Vv) <| dS V V <| dS V V <| dS V V <| dS V V <| dS V V <| dS V V <| dS V V <| dS V V <| dS V V <| dS V V <| dS V V <| dS V V <| dS V V <| dO V V V (zP1 V V V Vv) <| zO0 <| zX V (V) <| zA <| qR V <| qA V V V <| qN <| zG ?_
    exact zK (.inr V) Tryz.results63 V (.of_eq (by rw [zK3 hlt (by simp_all [okAt] <;> omega)])) (.bool _) Vv
   ·
    refine dO V V V (zL V V zA5 Vv) <| dO V V V (zL0 V V V ta25 V Vv) <| dO V V V (zX2 V V V V Vv) <| dO V V V (zP1 V V V Vv) <| dO V V V (zY V V Vv) ?_
    refine zS2 (fun h25 => ?_) (fun h25 => ?_)
    ·
     refine dS V V <| dS V V <| dS V V <| dS V V <| dS V V <| dS V V <| dS V V <| dS V V <| dS V V <| dS V V <| dS V V <| dS V V <| dS V V <| dO V V V (zP1 V V V Vv) <| zO0 <| zX V (V) <| zA <| qR V <| qA V V V <| qN <| zG ?_
     exact zK (.inr V) Tryz.results63 V (.of_eq (by rw [zK3 hlt (by simp_all [okAt] <;> omega)])) (.bool _) Vv
    ·
     refine dO V V V (zY V V Vv) <| dO V V V (zX2 V V V V Vv) <| dO V V V (zY V V Vv) ?_
     refine zS2 (fun h28 => ?_) (fun h28 => ?_)
     ·
      have hi0 : 0 < i := by simpa using h28
      obtain ⟨p, hp⟩ : ∃ a, c[i - 1]? = some a := ⟨_, zD (by omega)⟩
      refine dO V V V (zL V V zQ3 Vv) <| dO V V V (zL0 V V V ta3 V Vv) <| dO V V V (zY V V Vv) <| dO V V V (zY V V Vv) <| dO V V V (zU0 V V V (wsub (a := i) (b := 1) (c := i - 1) (by omega) (by simp only [maxLen] at hlen; omega)) Vv) ?_
      refine dO V V V (zO V zM sz87 (by decide) V V V (zE1 hp) Vv) ?_
      refine dO V V V (zF1 V V zQ3 Vv) <| dO V V V (zP V V ta3 V Vv) <| dO V V V (zX2 V V V V Vv) <| dO V V V (zP1 V V V Vv) <| dO V V V (zP1 V V V Vv) <| zO0 ?_
      refine zE V (fun h39 => ?_) (fun h39 => ?_)
      ·
       refine zA <| qR V <| qA V V V <| qN <| zG ?_
       exact zK (.inr V) Tryz.results63 V (.of_eq (by rw [zK3 hlt (by simp_all [okAt] <;> omega)])) (.bool _) Vv
      ·
       refine zQ <| qR V <| qO V <| zU0 V V V V <| qM V V V <| qN ?_
       refine ⟨i + 1, _, by omega, ⟨by omega, fun j hj => ?_⟩, rfl, .nil, (.old V V (.old V V (.old V V (.nil)))), (.new' V (zH1 hlt hlen) (.int _ _) (.nil))⟩
       by_cases e : j = i
       ·subst e; simp_all [okAt]
       ·exact hall j (by omega)
     ·
      refine dS V V <| dS V V <| dS V V <| dS V V <| dS V V <| dS V V <| dS V V <| dS V V <| dS V V <| dO V V V (zP1 V V V Vv) <| dO V V V (zP1 V V V Vv) <| zO0 <| zJ V (V) <| zQ <| qR V <| qO V <| zU0 V V V V <| qM V V V <| qN ?_
      refine ⟨i + 1, _, by omega, ⟨by omega, fun j hj => ?_⟩, rfl, .nil, (.old V V (.old V V (.old V V (.nil)))), (.new' V (zH1 hlt hlen) (.int _ _) (.nil))⟩
      by_cases e : j = i
      ·subst e; simp_all [okAt]
      ·exact hall j (by omega)
 ·
  have hge : i = c.length := by simp at h8; omega
  refine zA1 <| zA <| qR V <| qM V V V <| qE V V zM V <| qC V V V V V <| qA V V V <| qN <| zG ?_
  exact zK (.inr V) Tryz.results63 V (.of_eq (by rw [isClock_end (fun j hj => hall j (by omega)), zH])) (.bool _) Vv
theorem tEqual_spec (a b : List Tk) (S : MS) : MCalls Tryz.prog 100 [.lst none 2 (a.map encT), .lst none 2 (b.map encT)] S fun v σ' => v = .bool (decide (a = b)) ∧ σ' = S := by
 refine zN Tryz.func100 V Tryz.ntmps100 (zB V) ?_
 refine zP2 (t := 0) V fun hlen => ?_
 rw [zH] at hlen
 refine zA <| qR V <| qA V V V <| qN <| zA <| zA <| qR V <| qM V V V <| qE V V zM V <| qM V V V <| qE V V zM V <| qC V V V V V <| qN ?_
 refine zE V (fun h10 => ?_) (fun h10 => ?_)
 ·
  refine zA <| qR V <| qA V V V <| qN <| zG ?_
  exact zK (.inr V) Tryz.results100 V (.of_eq (by congr 1; symm; rw [decide_eq_false_iff_not]; intro e; subst e; simp at h10)) (.bool _) Vv
 ·
  have hab : a.length = b.length := by simp at h10; omega
  refine zQ <| zA <| zA <| qR V <| qM V V V <| qE V V zM V <| qM V V V <| qN <| zW ?_
  refine zD1 (α := Nat) [(0, _), (1, _), (12, _)] (fun i => [(13, .int .i64 (i : Int))]) (fun i => []) (fun i => i ≤ a.length ∧ a.take i = b.take i) (fun i => a.length - i) (0) (.keep V (.keep V (.keep V (.nil)))) (.keep V (.nil)) (⟨by omega, rfl⟩) (V) ?_
  rintro i ⟨hi, heq⟩
  refine zA <| qR V <| qC V V V V V <| qN <| zA ?_
  refine zE V (fun h14 => ?_) (fun h14 => ?_)
  ·
   have hlt : i < a.length := by simpa using h14
   obtain ⟨x, hs⟩ : ∃ q_, a[i]? = some q_ := ⟨_, zD hlt⟩
   obtain ⟨y, hs2⟩ : ∃ s, b[i]? = some s := ⟨_, zD (by omega)⟩
   refine zQ <| zA <| zW <| zA <| qR V <| qM V V V <| qA V V V <| qN <| zA ?_
   refine zV0 [] [_] mo (by decide) V V V V ?_
   refine dO V V V (zY V V Vv) <| dO V V V (zY V V Vv) <| dO V V V (zO V zM sz87 (by decide) V V V (zE1 hs) Vv) ?_
   refine dO V V V (zP V V ta87 V Vv) <| dO V V V (zY V V Vv) <| dO V V V (zY V V Vv) <| dO V V V (zO V zM sz87 (by decide) V V V (zE1 hs2) Vv) ?_
   refine dO V V V (zP V V ta87 V Vv) <| zV V V (.cons (op_eqstruct V (by kernel_rfl) V V V (.inr Vv) Vv) .nil) ?_
   refine zO0 ?_
   refine zE V (fun h24 => ?_) (fun h24 => ?_)
   ·
    refine zA <| qR V <| qA V V V <| qN <| zG ?_
    exact zK (.inr V) Tryz.results100 V (.of_eq (by congr 1; symm; rw [decide_eq_false_iff_not]; intro e; subst e; rw [hs2] at hs; injection hs with hs; subst hs; simp at h24)) (.bool _) Vv
   ·
    refine zQ <| qR V <| qO V <| zU0 V V V V <| qM V V V <| qN ?_
    refine ⟨i + 1, by omega, ⟨by omega, ?_⟩, rfl, (.keep V (.keep V (.keep V (.nil)))), (.eq V (zH1 hlt hlen) (.nil))⟩
    rw [List.take_add_one, List.take_add_one, hs, hs2, heq]
    obtain ⟨x1, x2⟩ := x; obtain ⟨y1, y2⟩ := y
    simp at h24
    rw [h24.1, h24.2]
  ·
   have hge : i = a.length := by simp at h14; omega
   refine zA1 <| zA <| qR V <| qA V V V <| qN <| zG ?_
   exact zK (.inr V) Tryz.results100 V (.of_eq (by congr 1; symm; rw [decide_eq_true_iff]; rw [hge, List.take_length, hab, List.take_length] at heq; exact heq)) (.bool _) Vv
theorem clkSame_spec (a b : List Tk) (S : MS) : MCalls Tryz.prog 88 [.lst none 2 (a.map encT), .lst none 2 (b.map encT)] S fun v σ' => v = .bool (decide (a = b)) ∧ σ' = S := by
 refine zN Tryz.func88 V Tryz.ntmps88 (zB V) ?_
 refine zA <| qR V <| qA V V V <| qN <| zA <| qR V <| qM V V V <| qM V V V ?_
 refine qX V V V V co100 (tEqual_spec a b _) ?_
 refine qA V V V <| qN <| zG ?_
 exact zK (.inr V) Tryz.results88 V (.of_eq (V)) (.bool _) Vv
theorem isNaN_spec (m : Int) (S : MS) : MCalls Tryz.prog 102 [.int .i64 m] S fun v σ' => v = .bool false ∧ σ' = S := by
 refine zN Tryz.func102 V Tryz.ntmps102 (zB V) ?_
 refine zA <| qR V <| qA V V V <| qN <| zA <| qR V <| qM V V V <| qM V V V <| qC V V V V V <| qA V V V <| qN <| zG ?_
 exact zK (.inr V) Tryz.results102 V (.of_eq (by simp)) (.bool _) Vv
theorem compare_spec (m n : Int) (S : MS) : MCalls Tryz.prog 95 [.int .i64 m, .int .i64 n] S fun v σ' => v = .int .i64 (cmpI m n) ∧ σ' = S := by
 refine zN Tryz.func95 V Tryz.ntmps95 (zB V) ?_
 refine zA <| qR V <| qA V V V <| qN <| zA <| qR V <| qM V V V ?_
 refine qX V V V V co102 (isNaN_spec m _) ?_
 refine qA V V V <| qN <| zA <| qR V <| qM V V V ?_
 refine qX V V V V co102 (isNaN_spec n _) ?_
 refine qA V V V <| qN <| zA <| zA <| qR V <| qM V V V <| qN <| zJ V (V) <| zQ <| zA <| zA <| qR V <| qM V V V <| qN <| zJ V (V) <| zQ <| zA <| zA <| qR V <| qM V V V <| qM V V V <| qC V V V V V <| qN ?_
 refine zE V (fun h16 => ?_) (fun h16 => ?_)
 ·
  refine zA <| qR V <| qA V V V <| qN <| zG ?_
  exact zK (.inr V) Tryz.results95 V (.of_eq (by simp only [decide_eq_true_eq] at h16; rw [cmpI, if_pos h16])) (.int _ _) Vv
 ·
  refine zQ <| zA <| zA <| qR V <| qM V V V <| qM V V V <| qC V V V V V <| qN ?_
  refine zE V (fun h19 => ?_) (fun h19 => ?_)
  ·
   refine zA <| qR V <| qA V V V <| qN <| zG ?_
   exact zK (.inr V) Tryz.results95 V (.of_eq (by simp only [decide_eq_true_eq, decide_eq_false_iff_not] at h16 h19; rw [cmpI, if_neg h16, if_pos h19])) (.int _ _) Vv
  ·
   refine zQ <| zA <| qR V <| qA V V V <| qN <| zG ?_
   exact zK (.inr V) Tryz.results95 V (.of_eq (by simp only [decide_eq_true_eq, decide_eq_false_iff_not] at h16 h19; rw [cmpI, if_neg h16, if_neg h19])) (.int _ _) Vv
theorem byWho_spec (x y : Tk) (S : MS) : MCalls Tryz.prog 105 [encT x, encT y] S fun v σ' => v = .int .i64 (cmpI x.1 y.1) ∧ σ' = S := by
 refine zN Tryz.func105 V Tryz.ntmps105 (zB V) ?_
 refine zA <| qR V <| qB V V V V V <| qB V V V V V <| qA V V V <| qN <| zA <| qR V <| qF V V V zQ3 <| qL V V V V ta3 V <| qF V V V zQ3 <| qL V V V V ta3 V ?_
 refine qX V V V V co95 (compare_spec x.1 y.1 _) ?_
 refine qA V V V <| qN <| zG ?_
 exact zK (.inr V) Tryz.results105 V (.of_eq (V)) (.int _ _) Vv
theorem join1_spec (x y : Tk) (S : MS) : MCalls Tryz.prog 106 [encT x, encT y] S fun v σ' => v = encT (bothT x y) ∧ σ' = S := by
 refine zN Tryz.func106 V Tryz.ntmps106 (zB V) ?_
 refine zA <| qR V <| qB V V V V V <| qB V V V V V <| qO V <| zH0 V zm87 V V <| qN <| zA <| qR V <| qF V V V zQ3 <| qL V V V V ta3 V <| qF V V V zA5 <| qL V V V V ta25 V <| qF V V V zA5 <| qL V V V V ta25 V <| qO V <| op_max2 V V V <| qO V <| zA2 V zI5 zm87 (.cons zQ3 sz3 V V (zB V) (.cons zA5 sz25 V V (zB V) .nil)) (by kernel_rfl) ?_
 refine qO V <| zT0 V V V V sz87 V V (zB V) V <| qN <| zG ?_
 exact zA4 (.inr V) Tryz.results106 V V ta87 V (.refl _) (cl_encT _ (bothT x y)) Vv
theorem merge_spec (a b : List Tk) (cmp : Tk → Tk → Int) (bo : Tk → Tk → Tk) (kc kb : FuncId) (hab : a.length + b.length ≤ 1000000) (hco : CallOk Tryz.prog kc) (hcb : CallOk Tryz.prog kb) (hp : ∀ (x y : Tk) (X : MS), MCalls Tryz.prog kc [encT x, encT y] X fun v σ' => v = .int .i64 (cmp x y) ∧ σ' = X) (hq : ∀ (x y : Tk) (X : MS), MCalls Tryz.prog kb [encT x, encT y] X fun v σ' => v = encT (bo x y) ∧ σ' = X) (S : MS) : MCalls Tryz.prog 104 [.lst none 2 (a.map encT), .lst none 2 (b.map encT), .fn (.func kc) [] [], .fn (.func kb) [] []] S fun v σ' => v = .lst none 2 ((mergeF cmp bo a b).map encT) ∧ σ' = S := by
 refine zN Tryz.func104 V Tryz.ntmps104 (zB V) ?_
 refine zA <| qR V <| qA V V V <| qN <| zA <| qR V <| qA V V V <| qN <| zA <| zW <| mwp_row0 9 87 2 V (Nat.le_refl _) V V ?_
 refine zD1 (α := List Tk × List Tk × List Tk) [(2, _), (3, _)] (fun x => [(0, .lst none 2 (x.1.map encT)), (1, .lst none 2 (x.2.1.map encT)), (9, .lst (some (S.length + 0)) 2 (x.2.2.map encT))]) (fun x => [.row 87 2 x.2.2.length]) (fun x => x.2.2.length + x.1.length + x.2.1.length ≤ a.length + b.length ∧ x.2.2 ++ mergeF cmp bo x.1 x.2.1 = mergeF cmp bo a b) (fun x => x.1.length + x.2.1.length) (⟨a, b, []⟩) (.keep V (.keep V (.nil))) (.keep V (.keep V (.keep V (.nil)))) (⟨by simp, by simp⟩) (V) ?_
 rintro ⟨a', b', out⟩ ⟨hl, he⟩
 dsimp only at hl he ⊢
 refine zA <| zA ?_
 rcases a' with _ | ⟨x, a'⟩
 ·
  refine qR V <| qM V V V <| qE V V zM V <| qC V V V V (gtr_nil) <| qM V V V <| qS V <| qS V <| qS V <| qP V V V V <| qN <| zJ V (V) <| zA1 <| zA <| qR V <| qM V V V <| qM V V V <| qO V <| zE4 V zM el87 V V V (by simp) (by simp only [zC0, List.length_nil, zH, zF] at hl ⊢; omega) (by simp only [zC0, List.length_nil, zH, zF] at hl ⊢; omega) V ?_
  refine qM V V V <| qO V <| zE4 V zM el87 V V V (by simp) (by simp only [zC0, List.length_nil, zH, zF] at hl ⊢; omega) (by simp only [zC0, List.length_nil, zH, zF] at hl ⊢; omega) V ?_
  refine qA V V V <| qN <| zG ?_
  exact zK (.inr V) Tryz.results104 V (Sub.trans (.view _ _ _) (.of_eq (by rw [← he]; simp [nil_merge]))) (cl_clock _ _) Vv
 ·
  rcases b' with _ | ⟨y, b'⟩
  ·
   refine qR V <| qM V V V <| qE V V zM V <| qC V V V V (gtr_cons) <| qM V V V <| qM V V V <| qE V V zM V <| qC V V V V (gtr_nil) <| qP V V V V <| qN <| zJ V (V) <| zA1 <| zA <| qR V <| qM V V V <| qM V V V <| qO V <| zE4 V zM el87 V V V (by simp) (by simp only [zC0, List.length_nil, zH, zF] at hl ⊢; omega) (by simp only [zC0, List.length_nil, zH, zF] at hl ⊢; omega) V ?_
   refine qM V V V <| qO V <| zE4 V zM el87 V V V (by simp) (by simp only [zC0, List.length_nil, zH, zF] at hl ⊢; omega) (by simp only [zC0, List.length_nil, zH, zF] at hl ⊢; omega) V ?_
   refine qA V V V <| qN <| zG ?_
   exact zK (.inr V) Tryz.results104 V (Sub.trans (.view _ _ _) (.of_eq (by rw [← he]; simp [merge_nil]))) (cl_clock _ _) Vv
  ·
   simp only [zC0] at hl
   refine qR V <| qM V V V <| qE V V zM V <| qC V V V V (gtr_cons) <| qM V V V <| qM V V V <| qE V V zM V <| qC V V V V (gtr_cons) <| qP V V V V <| qN <| zX V (V) <| zQ <| zW <| zA ?_
   refine zV0 [] [_] mo (by decide) V V V V ?_
   refine dO V V V (zY V V Vv) <| dO V V V (zY V V Vv) <| dO V V V (zO V zM sz87 (by decide) V V V V Vv) ?_
   refine dO V V V (zP V V ta87 V Vv) <| dO V V V (zY V V Vv) <| dO V V V (zO V zM sz87 (by decide) V V V V Vv) ?_
   refine dO V V V (zP V V ta87 V Vv) <| zV V V (.cons (zX0 V V V hco (hp x y _)) .nil) <| dO V V V (zC1 V V Vv) <| zO0 <| zW <| zA <| qR V <| qM V V V <| qC V V V V V <| qA V V V <| qN ?_
   refine zE V (fun h42 => ?_) (fun h42 => ?_)
   ·
    refine zV0 [5] [_, S ++ [.row 87 2 (out.length + 1)]] mo (by decide) V V V V ?_
    refine dO V V V (zY V V Vv) <| zV V V (.cons (zY V V Vv) (.cons (zY V V Vv) (.nil))) <| zV V V (.cons (zO V zM sz87 (by decide) V V V V Vv) (.cons (zO V zM sz87 (by decide) V V V V Vv) (.nil))) ?_
    refine zV V V (.cons (zP V V ta87 V Vv) (.cons (zP V V ta87 V Vv) (.nil))) <| dO V V V (zI1 V zM el87 V V (by decide) (by decide) V V Vv) ?_
    refine zG1 V V V V (zE4 V zM el87 V V V (by simp) (by simp only [zC0, List.length_nil, zH, zF] at hl ⊢; omega) (by simp only [zC0, List.length_nil, zH, zF] at hl ⊢; omega) V Vv) ?_
    refine zV V V (.cons (zY V V Vv) (.cons (zY V V Vv) (.nil))) <| zV V V (.cons (op_slice V zM sz87 V (.some V V) .none (by simp) (Nat.le_refl _) Vv) (.cons (op_slice V zM sz87 V (.some V V) .none (by simp) (Nat.le_refl _) Vv) (.nil))) ?_
    refine dO V V V (zC1 V V Vv) <| dO V V V (zC1 V V Vv) <| zO0 ?_
    simp only [decide_eq_true_eq] at h42
    refine ⟨⟨a', y :: b', out ++ [x]⟩, by simp only [zC0, zF, List.length_nil]; omega, ⟨by simp only [zC0, zF, List.length_nil]; omega, by rw [← he, merge_cons, if_pos h42]; simp⟩, by simp, (.keep V (.keep V (.nil))), (.eq V (by simp [List.take_of_length_le]) (.keep V (.eq V (by rw [List.map_append]; rfl) (.nil))))⟩
   ·
    refine zA <| qR V <| qM V V V <| qC V V V V V <| qA V V V <| qN ?_
    refine zE V (fun h53 => ?_) (fun h53 => ?_)
    ·
     refine zV0 [5] [_, S ++ [.row 87 2 (out.length + 1)]] mo (by decide) V V V V ?_
     refine dO V V V (zY V V Vv) <| zV V V (.cons (zY V V Vv) (.cons (zY V V Vv) (.nil))) <| zV V V (.cons (zO V zM sz87 (by decide) V V V V Vv) (.cons (zO V zM sz87 (by decide) V V V V Vv) (.nil))) ?_
     refine zV V V (.cons (zP V V ta87 V Vv) (.cons (zP V V ta87 V Vv) (.nil))) <| dO V V V (zI1 V zM el87 V V (by decide) (by decide) V V Vv) ?_
     refine zG1 V V V V (zE4 V zM el87 V V V (by simp) (by simp only [zC0, List.length_nil, zH, zF] at hl ⊢; omega) (by simp only [zC0, List.length_nil, zH, zF] at hl ⊢; omega) V Vv) ?_
     refine zV V V (.cons (zY V V Vv) (.cons (zY V V Vv) (.nil))) <| zV V V (.cons (op_slice V zM sz87 V (.some V V) .none (by simp) (Nat.le_refl _) Vv) (.cons (op_slice V zM sz87 V (.some V V) .none (by simp) (Nat.le_refl _) Vv) (.nil))) ?_
     refine dO V V V (zC1 V V Vv) <| dO V V V (zC1 V V Vv) <| zO0 ?_
     simp only [decide_eq_true_eq, decide_eq_false_iff_not] at h42 h53
     refine ⟨⟨x :: a', b', out ++ [y]⟩, by simp only [zC0, zF, List.length_nil]; omega, ⟨by simp only [zC0, zF, List.length_nil]; omega, by rw [← he, merge_cons, if_neg h42, if_pos h53]; simp⟩, by simp, (.keep V (.keep V (.nil))), (.keep V (.eq V (by simp [List.take_of_length_le]) (.eq V (by rw [List.map_append]; rfl) (.nil))))⟩
    ·
     refine zV0 [10] [_, S ++ [.row 87 2 (out.length + 1)]] mo (by decide) V V V V ?_
     refine dO V V V (zY V V Vv) <| zV V V (.cons (zY V V Vv) (.cons (zY V V Vv) (.nil))) <| zV V V (.cons (zY V V Vv) (.cons (zY V V Vv) (.nil))) <| zV V V (.cons (zO V zM sz87 (by decide) V V V V Vv) (.cons (zO V zM sz87 (by decide) V V V V Vv) (.nil))) ?_
     refine zV V V (.cons (zP V V ta87 V Vv) (.cons (zP V V ta87 V Vv) (.nil))) <| zV V V (.cons (zY V V Vv) (.cons (zY V V Vv) (.nil))) <| zV V V (.cons (zO V zM sz87 (by decide) V V V V Vv) (.cons (zO V zM sz87 (by decide) V V V V Vv) (.nil))) ?_
     refine zV V V (.cons (zP V V ta87 V Vv) (.cons (zP V V ta87 V Vv) (.nil))) <| zV V V (.cons (zX0 V V V hcb (hq x y _)) .nil) <| dO V V V (zI1 V zM el87 V V (by decide) (by decide) V V Vv) ?_
     refine zG1 V V V V (zE4 V zM el87 V V V (by simp) (by simp only [zC0, List.length_nil, zH, zF] at hl ⊢; omega) (by simp only [zC0, List.length_nil, zH, zF] at hl ⊢; omega) V Vv) ?_
     refine zV V V (.cons (zY V V Vv) (.cons (zY V V Vv) (.nil))) <| zV V V (.cons (op_slice V zM sz87 V (.some V V) .none (by simp) (Nat.le_refl _) Vv) (.cons (op_slice V zM sz87 V (.some V V) .none (by simp) (Nat.le_refl _) Vv) (.nil))) ?_
     refine zV V V (.cons (zY V V Vv) (.cons (zY V V Vv) (.nil))) <| zV V V (.cons (op_slice V zM sz87 V (.some V V) .none (by simp) (Nat.le_refl _) Vv) (.cons (op_slice V zM sz87 V (.some V V) .none (by simp) (Nat.le_refl _) Vv) (.nil))) ?_
     refine dO V V V (zC1 V V Vv) <| dO V V V (zC1 V V Vv) <| dO V V V (zC1 V V Vv) <| zO0 ?_
     simp only [decide_eq_false_iff_not] at h42 h53
     refine ⟨⟨a', b', out ++ [bo x y]⟩, by simp only [zC0, zF, List.length_nil]; omega, ⟨by simp only [zC0, zF, List.length_nil]; omega, by rw [← he, merge_cons, if_neg h42, if_neg h53]; simp⟩, by simp, (.keep V (.keep V (.nil))), (.eq V (by simp [List.take_of_length_le]) (.eq V (by simp [List.take_of_length_le]) (.eq V (by rw [List.map_append]; rfl) (.nil))))⟩
theorem clkJoin_spec (a b : List Tk) (hab : a.length + b.length ≤ 1000000) (S : MS) : MCalls Tryz.prog 97 [.lst none 2 (a.map encT), .lst none 2 (b.map encT)] S fun v σ' => v = .lst none 2 ((joinF a b).map encT) ∧ σ' = S := by
 refine zN Tryz.func97 V Tryz.ntmps97 (zB V) ?_
 refine zA <| qR V <| qA V V V <| qN <| zA <| qR V <| qM V V V <| qM V V V ?_
 refine qX V V V V co104 (merge_spec a b (fun x y => cmpI x.1 y.1) bothT 105 106 hab co105 co106 byWho_spec join1_spec _) ?_
 refine qA V V V <| qN <| zG ?_
 exact zK (.inr V) Tryz.results97 V (.of_eq (V)) (cl_clock _ _) Vv
theorem clkCmp_spec (a b : List Tk) (hab : a.length + b.length ≤ 1000000) (S : MS) : MCalls Tryz.prog 81 [.lst none 2 (a.map encT), .lst none 2 (b.map encT)] S fun v σ' => v = .int .i64 (cmpF a b) ∧ σ' = S := by
 refine zN Tryz.func81 V Tryz.ntmps81 (zB V) ?_
 refine zA <| qR V <| qA V V V <| qN <| zA <| qR V <| qM V V V <| qM V V V ?_
 refine qX V V V V co97 (clkJoin_spec a b hab _) ?_
 refine qA V V V <| qN <| zA <| zW <| zA <| qR V <| qM V V V <| qM V V V ?_
 refine qX V V V V co88 (clkSame_spec a b _) ?_
 refine qA V V V <| qN ?_
 refine zE V (fun h9 => ?_) (fun h9 => ?_)
 ·
  refine zA <| qR V <| qA V V V <| qN <| zG ?_
  exact zK (.inr V) Tryz.results81 V (.of_eq (by unfold cmpF; simp_all)) (.int _ _) Vv
 ·
  refine zA <| qR V <| qM V V V <| qM V V V ?_
  refine qX V V V V co88 (clkSame_spec (joinF a b) b _) ?_
  refine qA V V V <| qN ?_
  refine zE V (fun h13 => ?_) (fun h13 => ?_)
  ·
   refine zA <| qR V <| qA V V V <| qN <| zG ?_
   exact zK (.inr V) Tryz.results81 V (.of_eq (by unfold cmpF; simp_all)) (.int _ _) Vv
  ·
   refine zA <| qR V <| qM V V V <| qM V V V ?_
   refine qX V V V V co88 (clkSame_spec (joinF a b) a _) ?_
   refine qA V V V <| qN ?_
   refine zE V (fun h17 => ?_) (fun h17 => ?_)
   ·
    refine zA <| qR V <| qA V V V <| qN <| zG ?_
    exact zK (.inr V) Tryz.results81 V (.of_eq (by unfold cmpF; simp_all)) (.int _ _) Vv
   ·
    refine zQ <| zA <| qR V <| qA V V V <| qN <| zG ?_
    exact zK (.inr V) Tryz.results81 V (.of_eq (by unfold cmpF; simp_all)) (.int _ _) Vv
theorem not_dec {p : Prop} [Decidable p] (h : (!decide p) = false) : p := by simpa using h
theorem two_of {ins : List Sch} (h : partsF 5 = (ins.length : Int)) : ∃ x y, ins = [x, y] := by
 have h2 : ins.length = 2 := by
  have : partsF 5 = 2 := by decide
  omega
 match ins, h2 with
 | [x, y], _ => exact ⟨x, y, rfl⟩
theorem xEqual_spec (a b : List Bs) (S : MS) : MCalls Tryz.prog 86 [.lst none 1 (a.map encX), .lst none 1 (b.map encX)] S fun v σ' => v = .bool (decide (a = b)) ∧ σ' = S := by
 refine zN Tryz.func86 V Tryz.ntmps86 (zB V) ?_
 refine zP2 (t := 0) V fun hlen => ?_
 rw [zH] at hlen
 refine zA <| qR V <| qA V V V <| qN <| zA <| zA <| qR V <| qM V V V <| qE V V zA0 V <| qM V V V <| qE V V zA0 V <| qC V V V V V <| qN ?_
 refine zE V (fun h10 => ?_) (fun h10 => ?_)
 ·
  refine zA <| qR V <| qA V V V <| qN <| zG ?_
  exact zK (.inr V) Tryz.results86 V (.of_eq (by congr 1; symm; rw [decide_eq_false_iff_not]; intro e; subst e; simp at h10)) (.bool _) Vv
 ·
  have hab : a.length = b.length := by simp at h10; omega
  refine zQ <| zA <| zA <| qR V <| qM V V V <| qE V V zA0 V <| qM V V V <| qN <| zW ?_
  refine zD1 (α := Nat) [(0, _), (1, _), (12, _)] (fun i => [(13, .int .i64 (i : Int))]) (fun i => []) (fun i => i ≤ a.length ∧ a.take i = b.take i) (fun i => a.length - i) (0) (.keep V (.keep V (.keep V (.nil)))) (.keep V (.nil)) (⟨by omega, rfl⟩) (V) ?_
  rintro i ⟨hi, heq⟩
  refine zA <| qR V <| qC V V V V V <| qN <| zA ?_
  refine zE V (fun h14 => ?_) (fun h14 => ?_)
  ·
   have hlt : i < a.length := by simpa using h14
   obtain ⟨x, hs⟩ : ∃ q_, a[i]? = some q_ := ⟨_, zD hlt⟩
   obtain ⟨y, hs2⟩ : ∃ s, b[i]? = some s := ⟨_, zD (by omega)⟩
   refine zQ <| zA <| zW <| zA <| qR V <| qM V V V <| qA V V V <| qN <| zA ?_
   refine zV0 [] [_] mo (by decide) V V V V ?_
   refine dO V V V (zY V V Vv) <| dO V V V (zY V V Vv) <| dO V V V (zO V zA0 sz9 (by decide) V V V (zE1 hs) Vv) ?_
   refine dO V V V (zP V V ta9 V Vv) <| dO V V V (zY V V Vv) <| dO V V V (zY V V Vv) <| dO V V V (zO V zA0 sz9 (by decide) V V V (zE1 hs2) Vv) ?_
   refine dO V V V (zP V V ta9 V Vv) <| dO V V V (zZ2 V V V V Vv) <| zO0 ?_
   refine zE V (fun h24 => ?_) (fun h24 => ?_)
   ·
    refine zA <| qR V <| qA V V V <| qN <| zG ?_
    exact zK (.inr V) Tryz.results86 V (.of_eq (by congr 1; symm; rw [decide_eq_false_iff_not]; intro e; subst e; rw [hs2] at hs; injection hs with hs; subst hs; simp at h24)) (.bool _) Vv
   ·
    refine zQ <| qR V <| qO V <| zU0 V V V V <| qM V V V <| qN ?_
    refine ⟨i + 1, by omega, ⟨by omega, ?_⟩, rfl, (.keep V (.keep V (.keep V (.nil)))), (.eq V (zH1 hlt hlen) (.nil))⟩
    rw [List.take_add_one, List.take_add_one, hs, hs2, heq]
    simp at h24
    rw [h24]
  ·
   have hge : i = a.length := by simp at h14; omega
   refine zA1 <| zA <| qR V <| qA V V V <| qN <| zG ?_
   exact zK (.inr V) Tryz.results86 V (.of_eq (by congr 1; symm; rw [decide_eq_true_iff]; rw [hge, List.take_length, hab, List.take_length] at heq; exact heq)) (.bool _) Vv
theorem _root_.zS : type_of% @Tryz.underlying27 := @Tryz.underlying27
theorem cEqualF_spec (a b : List (List Tk)) (S : MS) : MCalls Tryz.prog 99 [.lst none 1 (a.map encC), .lst none 1 (b.map encC), .fn (.func 88) [] []] S fun v σ' => v = .bool (decide (a = b)) ∧ σ' = S := by
 refine zN Tryz.func99 V Tryz.ntmps99 (zB V) ?_
 refine zP2 (t := 0) V fun hlen => ?_
 rw [zH] at hlen
 refine zA <| qR V <| qA V V V <| qN <| zA <| zA <| qR V <| qM V V V <| qE V V zS V <| qM V V V <| qE V V zS V <| qC V V V V V <| qN ?_
 refine zE V (fun h14 => ?_) (fun h14 => ?_)
 ·
  refine zA <| qR V <| qA V V V <| qN <| zG ?_
  exact zK (.inr V) Tryz.results99 V (.of_eq (by congr 1; symm; rw [decide_eq_false_iff_not]; intro e; subst e; simp at h14)) (.bool _) Vv
 ·
  have hab : a.length = b.length := by simp at h14; omega
  refine zQ <| zA <| zA <| qR V <| qM V V V <| qE V V zS V <| qM V V V <| qN <| zW ?_
  refine zD1 (α := Nat) [(1, _), (2, _), (15, _), (16, _)] (fun i => [(17, .int .i64 (i : Int))]) (fun i => []) (fun i => i ≤ a.length ∧ a.take i = b.take i) (fun i => a.length - i) (0) (.keep V (.keep V (.keep V (.keep V (.nil))))) (.keep V (.nil)) (⟨by omega, rfl⟩) (V) ?_
  rintro i ⟨hi, heq⟩
  refine zA <| qR V <| qC V V V V V <| qN <| zA ?_
  refine zE V (fun h18 => ?_) (fun h18 => ?_)
  ·
   have hlt : i < a.length := by simpa using h18
   obtain ⟨x, hs⟩ : ∃ q_, a[i]? = some q_ := ⟨_, zD hlt⟩
   obtain ⟨y, hs2⟩ : ∃ s, b[i]? = some s := ⟨_, zD (by omega)⟩
   refine zQ <| zA <| zW <| zA <| qR V <| qM V V V <| qO V <| zO V zS sz68 (by decide) V V V (zE1 hs) ?_
   refine qO V <| zP V V ta68 V <| qA V V V <| qA V V V <| qN <| zA <| qR V <| qM V V V <| qM V V V <| qO V <| zO V zS sz68 (by decide) V V V (zE1 hs2) ?_
   refine qO V <| zP V V ta68 V <| qA V V V <| qN <| zA <| qR V <| qM V V V <| qM V V V <| qM V V V ?_
   refine qX V V V V co88 (clkSame_spec x y _) ?_
   refine qO V <| zL1 V V <| qN ?_
   refine zE V (fun h30 => ?_) (fun h30 => ?_)
   ·
    refine zA <| qR V <| qA V V V <| qN <| zG ?_
    exact zK (.inr V) Tryz.results99 V (.of_eq (by congr 1; symm; rw [decide_eq_false_iff_not]; intro e; subst e; rw [hs2] at hs; injection hs with hs; rw [hs] at h30; simp at h30)) (.bool _) Vv
   ·
    refine zQ <| qR V <| qO V <| zU0 V V V V <| qM V V V <| qN ?_
    refine ⟨i + 1, by omega, ⟨by omega, ?_⟩, rfl, (.keep V (.keep V (.keep V (.keep V (.nil))))), (.eq V (zH1 hlt hlen) (.nil))⟩
    rw [List.take_add_one, List.take_add_one, hs, hs2, heq, not_dec h30]
  ·
   have hge : i = a.length := by simp at h18; omega
   refine zA1 <| zA <| qR V <| qA V V V <| qN <| zG ?_
   exact zK (.inr V) Tryz.results99 V (.of_eq (by congr 1; symm; rw [decide_eq_true_iff]; rw [hge, List.take_length, hab, List.take_length] at heq; exact heq)) (.bool _) Vv
theorem cSame_spec (a b : List (List Tk)) (S : MS) : MCalls Tryz.prog 87 [.lst none 1 (a.map encC), .lst none 1 (b.map encC), .fn (.func 88) [] []] S fun v σ' => v = .bool (decide (a = b)) ∧ σ' = S := by
 refine zN Tryz.func87 V Tryz.ntmps87 (zB V) ?_
 refine zA <| qR V <| qA V V V <| qN <| zA <| qR V <| qM V V V <| qM V V V <| qM V V V ?_
 refine qX V V V V co99 (cEqualF_spec a b _) ?_
 refine qA V V V <| qN <| zG ?_
 exact zK (.inr V) Tryz.results87 V (.of_eq (V)) (.bool _) Vv
theorem vEqualF_spec (a b : List Val) (ih : ∀ x ∈ a, ∀ (y : Val) (S : MS), MCalls Tryz.prog 77 [encV x, encV y] S fun v σ' => v = .bool (decide (x = y)) ∧ σ' = S) (S : MS) : MCalls Tryz.prog 101 [.lst none 5 (encVs a), .lst none 5 (encVs b), .fn (.func 77) [] []] S fun v σ' => v = .bool (decide (a = b)) ∧ σ' = S := by
 refine zN Tryz.func101 V Tryz.ntmps101 (zB V) ?_
 refine zP2 (t := 0) V fun hlen => ?_
 rw [zZ] at hlen
 refine zA <| qR V <| qA V V V <| qN <| zA <| zA <| qR V <| qM V V V <| qE V V zT V <| qM V V V <| qE V V zT V <| qC V V V V V <| qN ?_
 refine zE V (fun h14 => ?_) (fun h14 => ?_)
 ·
  rw [zZ, zZ] at h14
  refine zA <| qR V <| qA V V V <| qN <| zG ?_
  exact zK (.inr V) Tryz.results101 V (.of_eq (by congr 1; symm; rw [decide_eq_false_iff_not]; intro e; subst e; simp at h14)) (.bool _) Vv
 ·
  rw [zZ, zZ] at h14
  have hab : a.length = b.length := by simp at h14; omega
  refine zQ <| zA <| zA <| qR V <| qM V V V <| qE V V zT V <| qM V V V <| qN <| zW ?_
  refine mwp_loopKJ (α := Nat) [(1, _), (2, _), (15, _), (16, _)] (fun i => [(17, .int .i64 (i : Int))]) (fun i => []) (fun i => i ≤ a.length ∧ a.take i = b.take i) (fun i => a.length - i) (0) (Nat.le_refl _) (.keep V (.keep V (.keep V (.keep V (.nil))))) (.keep V (.nil)) (⟨by omega, rfl⟩) (V) ?_
  rintro i ⟨hi, heq⟩
  refine zA <| qR V <| qC V V V V V <| qN <| zA ?_
  refine zE V (fun h18 => ?_) (fun h18 => ?_)
  ·
   rw [zZ] at h18
   have hlt : i < a.length := by simpa using h18
   obtain ⟨⟨n1, m1, s1, c1, w1⟩, hs⟩ : ∃ s, a[i]? = some s := ⟨_, zD hlt⟩
   obtain ⟨⟨n2, m2, s2, c2, w2⟩, hs2⟩ : ∃ s, b[i]? = some s := ⟨_, zD (by omega)⟩
   refine zQ <| zA <| zW <| zA <| qR V <| qM V V V <| qO V <| zO V zT sz30 (by decide) V V V (zE5 hs) ?_
   refine qO V <| zP V V ta30 V <| qO V <| zH0 V zm30 V V <| qA V V V <| qO V <| zT0 V V V V sz30 V V (zB V) V <| qN <| zA <| qR V <| qM V V V <| qM V V V <| qO V <| zO V zT sz30 (by decide) V V V (zE5 hs2) ?_
   refine qO V <| zP V V ta30 V <| qO V <| zH0 V zm30 V V <| qO V <| zT0 V V V V sz30 V V (zB V) V <| qN <| zA <| qR V <| qM V V V <| qL V V V V ta30 V <| qL V V V V ta30 V ?_
   refine qX V V V V co77 (ih _ (zU hs) (.mk n2 m2 s2 c2 w2) _) ?_
   refine qO V <| zL1 V V <| qN ?_
   refine zE V (fun h30 => ?_) (fun h30 => ?_)
   ·
    refine zA <| qR V <| qA V V V <| qN <| zG ?_
    exact zK (.inr V) Tryz.results101 V (.of_eq (by congr 1; symm; rw [decide_eq_false_iff_not]; intro e; subst e; rw [hs2] at hs; injection hs with hs; rw [hs] at h30; simp at h30)) (.bool _) Vv
   ·
    refine zQ <| qR V <| qO V <| zU0 V V V V <| qM V V V <| qN ?_
    refine ⟨i + 1, _, by omega, ⟨by omega, ?_⟩, rfl, .nil, (.old V V (.old V V (.old V V (.old V V (.nil))))), (.new' V (zH1 hlt hlen) (.int _ _) (.nil))⟩
    rw [List.take_add_one, List.take_add_one, hs, hs2, heq, not_dec h30]
  ·
   rw [zZ] at h18
   have hge : i = a.length := by simp at h18; omega
   refine zA1 <| zA <| qR V <| qA V V V <| qN <| zG ?_
   exact zK (.inr V) Tryz.results101 V (.of_eq (by congr 1; symm; rw [decide_eq_true_iff]; rw [hge, List.take_length, hab, List.take_length] at heq; exact heq)) (.bool _) Vv
theorem vsSame_spec (a b : List Val) (ih : ∀ x ∈ a, ∀ (y : Val) (S : MS), MCalls Tryz.prog 77 [encV x, encV y] S fun v σ' => v = .bool (decide (x = y)) ∧ σ' = S) (S : MS) : MCalls Tryz.prog 89 [.lst none 5 (encVs a), .lst none 5 (encVs b), .fn (.func 77) [] []] S fun v σ' => v = .bool (decide (a = b)) ∧ σ' = S := by
 refine zN Tryz.func89 V Tryz.ntmps89 (zB V) ?_
 refine zA <| qR V <| qA V V V <| qN <| zA <| qR V <| qM V V V <| qM V V V <| qM V V V ?_
 refine qX V V V V co101 (vEqualF_spec a b ih _) ?_
 refine qA V V V <| qN <| zG ?_
 exact zK (.inr V) Tryz.results89 V (.of_eq (V)) (.bool _) Vv
theorem vSame_spec (d : Nat) : ∀ (a b : Val), vdepth a ≤ d → ∀ S : MS, MCalls Tryz.prog 77 [encV a, encV b] S fun v σ' => v = .bool (decide (a = b)) ∧ σ' = S := by
 induction d with
 | zero => rintro ⟨n, m, s, c, w⟩ b h; simp [vdepth] at h
 | succ d ih =>
 rintro ⟨n, m, s, c, w⟩ ⟨n2, m2, s2, c2, w2⟩ hd S
 have hmem : ∀ x ∈ w, vdepth x ≤ d := fun x hx => by have := vdepth_mem hx; rw [vdepth] at hd; omega
 refine zN Tryz.func77 V Tryz.ntmps77 (zB V) ?_
 refine zA <| qR V <| qB V V V V V <| qB V V V V V <| qA V V V <| qN <| zA <| qR V <| qF V V V zB4 <| qL V V V V ta25 V <| qF V V V zB4 <| qL V V V V ta25 V <| qC V V V V V <| qM V V V ?_
 refine zB0 (fun h10 => ?_) (fun h10 => ?_)
 ·
  refine qF V V V zX4 <| qL V V V V ta25 V <| qF V V V zX4 <| qL V V V V ta25 V <| qC V V V V V <| qP V V V V <| qM V V V ?_
  refine zB0 (fun h17 => ?_) (fun h17 => ?_)
  ·
   refine qF V V V zT1 <| qL V V V V ta26 V <| qF V V V zT1 <| qL V V V V ta26 V ?_
   refine qX V V V V co86 (xEqual_spec s s2 _) ?_
   refine qP V V V V <| qM V V V ?_
   refine zB0 (fun h24 => ?_) (fun h24 => ?_)
   ·
    refine qF V V V zS1 <| qL V V V V ta27 V <| qF V V V zS1 <| qL V V V V ta27 V ?_
    refine qX V V V V co87 (cSame_spec c c2 _) ?_
    refine qP V V V V <| qM V V V ?_
    refine zB0 (fun h31 => ?_) (fun h31 => ?_)
    ·
     refine qF V V V zO1 <| qL V V V V ta28 V <| qF V V V zO1 <| qL V V V V ta28 V ?_
     refine qX V V V V co89 (vsSame_spec w w2 (fun x hx y S => ih x y (hmem x hx) S) _) ?_
     refine qP V V V V <| qA V V V <| qN <| zG ?_
     exact zK (.inr V) Tryz.results77 V (.of_eq (by congr 1; rw [zC]; simp_all)) (.bool _) Vv
    ·
     refine qT V V V V <| qS V <| qP V V V V <| qA V V V <| qN <| zG ?_
     exact zK (.inr V) Tryz.results77 V (.of_eq (by congr 1; rw [zC]; simp_all)) (.bool _) Vv
   ·
    refine qT V V V V <| qS V <| qP V V V V <| qM V V V <| qT V V V V <| qS V <| qP V V V V <| qA V V V <| qN <| zG ?_
    exact zK (.inr V) Tryz.results77 V (.of_eq (by congr 1; rw [zC]; simp_all)) (.bool _) Vv
  ·
   refine qT V V V V <| qS V <| qP V V V V <| qM V V V <| qT V V V V <| qS V <| qP V V V V <| qM V V V <| qT V V V V <| qS V <| qP V V V V <| qA V V V <| qN <| zG ?_
   exact zK (.inr V) Tryz.results77 V (.of_eq (by congr 1; rw [zC]; simp_all)) (.bool _) Vv
 ·
  refine qT V V V V <| qS V <| qP V V V V <| qM V V V <| qT V V V V <| qS V <| qP V V V V <| qM V V V <| qT V V V V <| qS V <| qP V V V V <| qM V V V <| qS V <| qS V <| qS V ?_
  refine qS V <| qS V <| qP V V V V <| qA V V V <| qN <| zG ?_
  exact zK (.inr V) Tryz.results77 V (.of_eq (by congr 1; rw [zC]; simp_all)) (.bool _) Vv
theorem valSame_spec (a b : Val) (S : MS) : MCalls Tryz.prog 77 [encV a, encV b] S fun v σ' => v = .bool (decide (a = b)) ∧ σ' = S := vSame_spec _ a b (Nat.le_refl _) S
theorem bottom_spec (d : Nat) : ∀ (s : Sch), isF d s = true → ∀ S : MS, MCalls Tryz.prog 90 [encS s] S fun v σ' => v = encV (bottomF s) ∧ σ' = S := by
 induction d with
 | zero => intro s h; simp [isF] at h
 | succ d ih =>
 rintro ⟨k, ins⟩ hd S
 rw [isF] at hd
 simp only [Bool.and_eq_true, List.all_eq_true, beq_iff_eq] at hd
 refine zN Tryz.func90 V Tryz.ntmps90 (zB V) ?_
 refine zA <| qR V <| qB V V V V V <| qO V <| zH0 V zm30 V V <| qN <| zA <| qR V <| qO V <| zH0 V zm30 V V <| qN <| zA <| zA <| qR V <| qF V V V zM1 <| qL V V V V ta3 V <| qC V V V V V <| qN ?_
 refine zE V (fun h6 => ?_) (fun h6 => ?_)
 ·
  have hk : k = 5 := by simpa using h6
  subst hk
  obtain ⟨⟨k1, i1⟩, ⟨k2, i2⟩, rfl⟩ := two_of hd.1
  obtain ⟨⟨n1, m1, s1, c1, w1⟩, e1⟩ : ∃ v, bottomF (.mk k1 i1) = v := ⟨_, rfl⟩
  obtain ⟨⟨n2, m2, s2, c2, w2⟩, e2⟩ : ∃ v, bottomF (.mk k2 i2) = v := ⟨_, rfl⟩
  have ih1 := ih (.mk k1 i1) (hd.2 _ (by simp))
  have ih2 := ih (.mk k2 i2) (hd.2 _ (by simp))
  simp only [e1] at ih1
  simp only [e2] at ih2
  have hbot : bottomF (.mk 5 [.mk k1 i1, .mk k2 i2]) = .mk 0 0 [] [] [.mk n1 m1 s1 c1 w1, .mk n2 m2 s2 c2 w2] := by rw [bottomF, if_pos rfl, bottomL, bottomL, bottomL, e1, e2]
  refine zV0 [12] [_, S ++ [.cells (encS (.mk 5 [.mk k1 i1, .mk k2 i2])).cells, .cells [.int .u64 0, .int .u64 0, .lst0, .lst0, .lst0], .cells [.int .u64 0, .int .u64 0, .lst0, .lst0, .lst none 5 [encV (.mk n1 m1 s1 c1 w1), encV (.mk n2 m2 s2 c2 w2)]]]] mo (by decide) V V V V ?_
  refine dO V V V (zL V V zC2 Vv) <| dO V V V (zL0 V V V ta22 V Vv) <| dO V V V (zO V zD0 sz24 (by decide) V V V (show _ = some (encS (.mk k1 i1)) from V) Vv) ?_
  refine dO V V V (zP V V ta24 V Vv) <| zV V V (.cons (zX0 V V V co90 (ih1 _)) .nil) <| dO V V V (zL V V zC2 Vv) <| dO V V V (zL0 V V V ta22 V Vv) <| dO V V V (zO V zD0 sz24 (by decide) V V V (show _ = some (encS (.mk k2 i2)) from V) Vv) ?_
  refine dO V V V (zP V V ta24 V Vv) <| zV V V (.cons (zX0 V V V co90 (ih2 _)) .nil) <| dO V V V (zI1 V zT el30 V V (by decide) (by decide) V V Vv) ?_
  refine dO V V V (zL V V zO1 Vv) <| zG1 V V V V (zT0 V V V V sz28 V V (zB V) V Vv) <| zO0 <| zA <| qR V <| qL V V V V ta30 V <| qO V <| zT0 V V V V sz30 V V (zB V) V <| qN <| zG ?_
  rw [hbot]
  exact zA4 (.inr V) Tryz.results90 V V ta30 V (by first | exact (.agg (.cons (.refl _) (.cons (.refl _) (.cons (.nil _) (.cons (.nil _) (.cons (.nil _) .nil)))))) | exact (.agg (.cons (.refl _) (.cons (.refl _) (.cons (.nil _) (.cons (.nil _) (.cons (.refl _) .nil))))))) (zG2 _ _) Vv
 ·
  have hk : ¬ k = 5 := by simpa using h6
  have hbot : bottomF (.mk k ins) = noV := by simp [bottomF, hk]
  refine zQ <| zA <| qR V <| qL V V V V ta30 V <| qO V <| zT0 V V V V sz30 V V (zB V) V <| qN <| zG ?_
  rw [hbot]
  exact zA4 (.inr V) Tryz.results90 V V ta30 V (by first | exact (.agg (.cons (.refl _) (.cons (.refl _) (.cons (.nil _) (.cons (.nil _) (.cons (.nil _) .nil)))))) | exact (.agg (.cons (.refl _) (.cons (.refl _) (.cons (.nil _) (.cons (.nil _) (.cons (.refl _) .nil))))))) (zG2 _ _) Vv
theorem _root_.zU1 : type_of% @Tryz.underlying30 := @Tryz.underlying30
theorem Bottom_spec (s : Sch) (S : MS) : MCalls Tryz.prog 78 [encS s] S fun v σ' => v = encV (BottomF s) ∧ σ' = S := by
 obtain ⟨k, ins⟩ := s
 refine zN Tryz.func78 V Tryz.ntmps78 (zB V) ?_
 refine zA <| qR V <| qB V V V V V <| qO V <| zH0 V zm30 V V <| qN <| zA <| zA <| qR V <| qL V V V V ta24 V ?_
 refine qX V V V V co21 (Is_spec (.mk k ins) _) ?_
 refine qO V <| zL1 V V <| qN ?_
 refine zE V (fun h5 => ?_) (fun h5 => ?_)
 ·
  have hb : BottomF (.mk k ins) = noV := by unfold BottomF; rw [if_neg (by simpa using h5)]
  refine zA <| qR V <| qO V <| zA2 V zU1 zm30 .nil (by kernel_rfl) ?_
  refine qO V <| zT0 V V V V sz30 V V (zB V) V <| qN <| zG ?_
  rw [hb]
  exact zA4 (y := encV (noV)) (.inr V) Tryz.results78 V V ta30 V (.agg (.cons (.refl _) (.cons (.refl _) (.cons (.nil _) (.cons (.nil _) (.cons (.nil _) .nil)))))) (zG2 _ _) Vv
 ·
  have his : isF 16 (.mk k ins) = true := by simpa using h5
  obtain ⟨⟨n1, m1, s1, c1, w1⟩, e1⟩ : ∃ v, bottomF (.mk k ins) = v := ⟨_, rfl⟩
  have bs := bottom_spec 16 (.mk k ins) his
  simp only [e1] at bs
  have hb : BottomF (.mk k ins) = .mk n1 m1 s1 c1 w1 := by unfold BottomF; rw [if_pos his, e1]
  refine zQ <| zA <| qR V <| qL V V V V ta24 V ?_
  refine qX V V V V co90 (bs _) ?_
  refine qO V <| zT0 V V V V sz30 V V (zB V) V <| qN <| zG ?_
  rw [hb]
  exact zA4 (y := encV (.mk n1 m1 s1 c1 w1)) (.inr V) Tryz.results78 V V ta30 V (.refl _) (zG2 _ _) Vv
theorem None_spec (s : Sch) (x : Val) (S : MS) : MCalls Tryz.prog 61 [encS s, encV x] S fun v σ' => v = .bool (noneF s x) ∧ σ' = S := by
 obtain ⟨k, ins⟩ := s
 obtain ⟨n, m, s, c, w⟩ := x
 refine zN Tryz.func61 V Tryz.ntmps61 (zB V) ?_
 refine zA <| qR V <| qB V V V V V <| qB V V V V V <| qA V V V <| qN <| zA ?_
 refine zV0 [] [_] mo (by decide) V V V V ?_
 refine dO V V V (zL0 V V V ta24 V Vv) <| zV V V (.cons (zX0 V V V co78 (Bottom_spec (.mk k ins) _)) .nil) <| dO V V V (zL0 V V V ta30 V Vv) <| zV V V (.cons (zX0 V V V co77 (valSame_spec (BottomF (.mk k ins)) (.mk n m s c w) _)) .nil) <| dO V V V (zC1 V V Vv) <| zO0 <| zG ?_
 exact zK (.inr V) Tryz.results61 V (.of_eq (V)) (.bool _) Vv
def pairsY (l : List Bs) : List (List MV) := (List.range (l.length - 1)).map fun i => [encX (l.getD i []), encX (l.getD (i + 1) [])]
theorem pairsY_len (l : List Bs) : (pairsY l).length = l.length - 1 := by simp [pairsY]
theorem pairsY_get {l : List Bs} {i : Nat} {a b : Bs} (ha : l[i]? = some a) (hb : l[i + 1]? = some b) : (pairsY l)[i]? = some [encX a, encX b] := by
 have h1 := (zI.1 hb).1
 unfold pairsY
 rw [zJ1, List.getElem?_range (by omega)]
 simp [ha, hb]
theorem rises_iff : ∀ l : List Bs, risesF l = true ↔ ∀ i, i + 1 < l.length → Op.bytesLess (l.getD i []) (l.getD (i + 1) []) = true
 | [] => by simp [risesF]
 | [a] => by simp [risesF]
 | a :: b :: l => by
  rw [risesF, Bool.and_eq_true, rises_iff (b :: l)]
  constructor
  ·rintro ⟨h1, h2⟩ i hi
   cases i with
   | zero => simpa using h1
   | succ i => simpa using h2 i (by simpa using hi)
  ·intro h
   exact ⟨by simpa using h 0 (by simp), fun i hi => by simpa using h (i + 1) (by simpa using hi)⟩
def twoY (l : List (List Tk)) : List (List Tk × List Tk) := match l with
 | [] => []
 | a :: l => l.map (fun b => (a, b)) ++ twoY l
def encP (p : List Tk × List Tk) : List MV := [encC p.1, encC p.2]
theorem two_iff : ∀ l : List (List Tk), pairsF l = true ↔ ∀ p ∈ twoY l, pairF p.1 p.2 = true
 | [] => by simp [pairsF, twoY]
 | a :: l => by
  rw [pairsF, twoY, Bool.and_eq_true, two_iff l, List.all_eq_true]
  simp only [zX1, List.mem_map]
  constructor
  ·rintro ⟨h1, h2⟩ p (⟨b, hb, rfl⟩ | hp)
   ·exact h1 b hb
   ·exact h2 p hp
  ·intro h
   exact ⟨fun b hb => h (a, b) (.inl ⟨b, hb, rfl⟩), fun p hp => h p (.inr hp)⟩
theorem drop_cons_get {α : Type} {l r : List α} {a : α} {j : Nat} (h : a :: r = l.drop j) : l[j]? = some a ∧ r = l.drop (j + 1) := by
 have h1 := congrArg (fun q => q[0]?) h
 have h2 := congrArg (List.drop 1) h
 simp only [List.getElem?_cons_zero, List.getElem?_drop, Nat.add_zero] at h1
 refine ⟨h1.symm, ?_⟩
 simpa [List.drop_drop] using h2
theorem drop_nil_len {α : Type} {l : List α} {j : Nat} (h : [] = l.drop j) : l.length ≤ j := by
 have := congrArg List.length h
 simp at this
 omega
theorem drop_at {α : Type} {l : List α} {i : Nat} {a : α} (h : l[i]? = some a) : l.drop i = a :: l.drop (i + 1) := by
 obtain ⟨hlt, e⟩ := zI.1 h
 rw [List.drop_eq_getElem_cons hlt, e]
theorem two_mem : ∀ {l : List (List Tk)} {a b : List Tk}, (a, b) ∈ twoY l → a ∈ l ∧ b ∈ l
 | [], a, b, h => by simp [twoY] at h
 | x :: l, a, b, h => by
  rw [twoY, zX1] at h
  rcases h with h | h
  ·obtain ⟨y, hy, e⟩ := List.mem_map.1 h
   injection e with e1 e2
   subst e1 e2
   exact ⟨zP0 .., zM0 _ hy⟩
  ·have := two_mem h
   exact ⟨zM0 _ this.1, zM0 _ this.2⟩
theorem clock_len {c : List Tk} (h : isClockF c = true) : c.length ≤ 40 := by
 unfold isClockF at h
 simp at h
 omega
def orF (l : List Int) : Int := (l.find? (· != 0)).getD 0
theorem or_two (a b : Int) : orF [a, b] = if a ≠ 0 then a else b := by
 unfold orF
 by_cases h : a = 0
 ·by_cases h2 : b = 0
  ·simp [h, h2]
  ·simp [h, h2]
 ·simp [h]
theorem or_cons (a : Int) (l : List Int) : orF (a :: l) = if a ≠ 0 then a else orF l := by
 unfold orF
 by_cases h : a = 0 <;> simp [h]
def encI (n : Int) : MV := .int .i64 n
theorem ticks_at {a b : List Tk} {i : Nat} {x y : Tk} (ha : a[i]? = some x) (hb : b[i]? = some y) : byTicksF (a.drop i) (b.drop i) = if tickC x y ≠ 0 then tickC x y else byTicksF (a.drop (i + 1)) (b.drop (i + 1)) := by
 rw [drop_at ha, drop_at hb, byTicksF]
def findGo {α : Type} (p : α → Bool) : Nat → List α → Int
 | _, [] => -1
 | i, x :: l => if p x then (i : Int) else findGo p (i + 1) l
theorem find_any {α : Type} (p : α → Bool) : ∀ (i : Nat) (l : List α), decide (0 ≤ findGo p i l) = l.any p
 | _, [] => by simp [findGo]
 | i, x :: l => by
  rw [findGo, List.any_cons]
  split
  ·rename_i h; simp [h]
  ·rename_i h; rw [find_any p (i + 1) l]; simp [h]
theorem find_at {α : Type} {p : α → Bool} {l : List α} {i : Nat} {x : α} (h : l[i]? = some x) : findGo p i (l.drop i) = if p x then (i : Int) else findGo p (i + 1) (l.drop (i + 1)) := by
 rw [drop_at h, findGo]
theorem _root_.zL2 : type_of% @Tryz.underlying120 := @Tryz.underlying120
theorem pairs_iter (l : List Bs) (hlen : l.length ≤ maxLen) (bid l0 : Nat) : IterOk Tryz.prog 98 [] [.ref bid 0] (pairsY l) (fun σ => σ.length = l0 ∧ σ[bid]? = some (.cells [.lst none 1 (l.map encX)])) := by
 refine iterOk_of fun id T m hok hm hyt hyf => ?_
 refine zN Tryz.func98 V Tryz.ntmps98 (zB V) ?_
 rw [List.append_nil]
 show mwp _ _ _ _ _ _ _ (([] : MS) ++ T 0)
 refine zA <| qR V <| qA V V V <| qN <| zW ?_
 refine zD1 (α := Nat) [(0, _), (1, _)] (fun j => [(3, .int .i64 ((j + 1 : Nat) : Int))]) (fun j => T j) (fun j => j ≤ m) (fun j => m + 1 - j) (0) (.keep V (.keep V (.nil))) (.keep V (.nil)) (by omega) (V) ?_
 rintro j hj
 refine zA <| zA <| qR V <| qM V V V <| qO V <| zR0 V V (hok _).2 ta120 V <| qE V V zL2 V <| qC V V V V V <| qN ?_
 refine zE V (fun h7 => ?_) (fun h7 => ?_)
 ·
  have hlt : j + 1 < l.length := by rw [zH] at h7; simp at h7; omega
  obtain ⟨a, hs⟩ : ∃ a, l[j]? = some a := ⟨_, zD (by omega)⟩
  obtain ⟨b, hs2⟩ : ∃ a, l[j + 1]? = some a := ⟨_, zD hlt⟩
  have hy := pairsY_get hs hs2
  have hjl : j < (pairsY l).length := (zI.1 hy).1
  refine zQ <| zA <| zW <| zA ?_
  rcases Nat.lt_or_eq_of_le hj with hjm | hjm
  ·
   refine zV0 [10] [_, T (j + 1)] mo (by decide) V V V V ?_
   refine dO V V V (zY V V Vv) <| zV V V (.cons (zR0 V V (hok _).2 ta120 V Vv) (.cons (zR0 V V (hok _).2 ta120 V Vv) (.nil))) <| zV V V (.cons (zY V V Vv) (.cons (zY V V Vv) (.nil))) <| zV V V (.cons (zU0 V V V (wsub (a := j + 1) (b := 1) (c := j) (by omega) (by simp only [maxLen] at hlen; omega)) Vv) (.cons (zU0 V V V (wsub (a := j + 1) (b := 1) (c := j) (by omega) (by simp only [maxLen] at hlen; omega)) Vv) (.nil))) ?_
   refine zV V V (.cons (zO V zL2 sz9 (by decide) V V V (zE1 hs) Vv) (.cons (zO V zL2 sz9 (by decide) V V V (zE1 hs) Vv) (.nil))) ?_
   refine dO V V V (zP V V ta9 V Vv) <| zV V V (.cons (zR0 V V (hok _).2 ta120 V Vv) (.cons (zR0 V V (hok _).2 ta120 V Vv) (.nil))) <| zV V V (.cons (zY V V Vv) (.cons (zY V V Vv) (.nil))) <| zV V V (.cons (zO V zL2 sz9 (by decide) V V V (zE1 hs2) Vv) (.cons (zO V zL2 sz9 (by decide) V V V (zE1 hs2) Vv) (.nil))) ?_
   refine dO V V V (zP V V ta9 V Vv) <| zG1 V V V V ((hyt j _ hjm hy).at0 V V V) <| dO V V V (zL1 V V Vv) <| zO0 <| zJ V (V) <| zQ <| qR V <| qM V V V <| qO V <| zU0 V V V V <| qA V V V <| qN ?_
   refine ⟨j + 1, by omega, by omega, rfl, (.keep V (.keep V (.nil))), (.eq V (zH1 hlt hlen) (.nil))⟩
  ·
   refine zV0 [10] [_, T (j + 1)] mo (by decide) V V V V ?_
   refine dO V V V (zY V V Vv) <| zV V V (.cons (zR0 V V (hok _).2 ta120 V Vv) (.cons (zR0 V V (hok _).2 ta120 V Vv) (.nil))) <| zV V V (.cons (zY V V Vv) (.cons (zY V V Vv) (.nil))) <| zV V V (.cons (zU0 V V V (wsub (a := j + 1) (b := 1) (c := j) (by omega) (by simp only [maxLen] at hlen; omega)) Vv) (.cons (zU0 V V V (wsub (a := j + 1) (b := 1) (c := j) (by omega) (by simp only [maxLen] at hlen; omega)) Vv) (.nil))) ?_
   refine zV V V (.cons (zO V zL2 sz9 (by decide) V V V (zE1 hs) Vv) (.cons (zO V zL2 sz9 (by decide) V V V (zE1 hs) Vv) (.nil))) ?_
   refine dO V V V (zP V V ta9 V Vv) <| zV V V (.cons (zR0 V V (hok _).2 ta120 V Vv) (.cons (zR0 V V (hok _).2 ta120 V Vv) (.nil))) <| zV V V (.cons (zY V V Vv) (.cons (zY V V Vv) (.nil))) <| zV V V (.cons (zO V zL2 sz9 (by decide) V V V (zE1 hs2) Vv) (.cons (zO V zL2 sz9 (by decide) V V V (zE1 hs2) Vv) (.nil))) ?_
   refine dO V V V (zP V V ta9 V Vv) <| zG1 V V V V ((hyf j _ hjm hy).at0 V V V) <| dO V V V (zL1 V V Vv) <| zO0 <| zX V (V) ?_
   refine zS0 fun hcv hcl => ?_
   refine zG ?_
   exact ret_noneT (S' := T (j + 1)) (by simp) Tryz.results98 (by rw [(hok _).1, (hok _).1]; exact Nat.le_refl _) hcl ⟨rfl, by rw [hjm, if_pos (by omega)]⟩
 ·
  have hge : l.length ≤ j + 1 := by rw [zH] at h7; simp at h7; omega
  have hpl := pairsY_len l
  have hjm : j = m := by omega
  refine zS0 fun hcv hcl => ?_
  refine zA1 ?_
  exact ret_noneT (S' := T j) (by simp) Tryz.results98 (by rw [(hok _).1, (hok _).1]; exact Nat.le_refl _) hcl ⟨rfl, by rw [hjm, if_neg (by rw [pairsY_len]; omega)]⟩
theorem pairs_spec (l : List Bs) (S : MS) : MCalls Tryz.prog 84 [.lst none 1 (l.map encX)] S fun v σ' => v = .fn (.func 98) [] [.ref S.length 0] ∧ σ' = S ++ [.cells [.lst none 1 (l.map encX)]] := by
 refine zN Tryz.func84 V Tryz.ntmps84 (zB V) ?_
 refine zA <| qR V <| qB V V V V V <| qA V V V <| qN <| zA <| qR V <| qO V <| zN1 V V V <| qA V V V <| qN ?_
 refine zS0 fun hcv hcl => ?_
 refine zG ?_
 exact ret_tmpT (.inr V) Tryz.results84 V (.refl _) (hcv 2 _ rfl) (by simp) hcl Vv
theorem rowsIs_spec (l : List Bs) (S : MS) : MCalls Tryz.prog 73 [.lst none 1 (l.map encX)] S fun v σ' => v = .bool (risesF l) ∧ σ' = S := by
 refine zN Tryz.func73 V Tryz.ntmps73 (zB V) ?_
 refine zP2 (t := 0) V fun hlen => ?_
 rw [zH] at hlen
 refine zA <| qR V <| qO V <| zH0 V zm4 V V <| qN <| zA <| zA <| qR V <| qM V V V ?_
 refine qX V V V V co84 (pairs_spec l _) ?_
 rw [zR]
 refine qN <| zW ?_
 refine mwp_rangeB (ok := fun σ => σ.length = S.length + 3 ∧ σ[(S ++ [MObj.cells [.bool false]]).length]? = some (.cells [.lst none 1 (l.map encX)])) (ys := pairsY l) .ret (.inl V) (fun j => Op.bytesLess (l.getD j []) (l.getD (j + 1) [])) (fun j => ([.cells [.bool false], .cells [.lst none 1 (l.map encX)]] : MS)) (fun j => ([.cells [.bool false], .cells [.lst none 1 (l.map encX)]] : MS)) (fun j => V) (fun j => V) V (fun j o ho n hn => by simp at ho; rcases ho with rfl | rfl <;> intro x hx <;> (simp at hx; subst hx; first | exact .bool _ | exact cl_texts _ _ | exact cl_clocks _ _)) (fun j o ho n hn => by simp at ho; rcases ho with rfl | rfl <;> intro x hx <;> (simp at hx; subst hx; first | exact .bool _ | exact cl_texts _ _ | exact cl_clocks _ _)) V co98 V (by simp) ((pairs_iter l hlen _ _).weak fun σ h => h.1) (fun j => ⟨by simp, get_box⟩) (fun j s q => ⟨by simp, get_box⟩) V (fun y hy => by obtain ⟨i, _, rfl⟩ := List.mem_map.1 hy; rfl) ?_ ?_ ?_
 ·
  intro j y hy hbef L'
  obtain ⟨hjl, hys⟩ := zI.1 hy
  have hpl := pairsY_len l
  obtain ⟨a, hs⟩ : ∃ a, l[j]? = some a := ⟨_, zD (by omega)⟩
  obtain ⟨b, hs2⟩ : ∃ a, l[j + 1]? = some a := ⟨_, zD (by omega)⟩
  have hyy := pairsY_get hs hs2
  rw [hy] at hyy
  injection hyy with hyy
  subst hyy
  have ha : l.getD j [] = a := by simp [hs]
  have hb : l.getD (j + 1) [] = b := by simp [hs2]
  rw [ha, hb]
  refine zA <| qR V <| qA V V V <| qN <| qR V <| qA V V V <| qN ?_
  refine ⟨rfl, [], by rw [List.append_nil], ?_⟩
  rw [List.append_nil]
  refine zW <| zA <| qR V <| qM V V V <| qM V V V <| qO V <| zZ2 V V V V <| qN ?_
  refine zE V (fun h11 => ?_) (fun h11 => ?_)
  ·
   refine zA <| qR V <| qO V <| op_store_mid V V V V sz4 V V (zB V) V <| qN <| zG ?_
   exact .inr ⟨by simpa using h11, rfl, [], by rw [List.append_nil]; rfl⟩
  ·
   refine zQ ?_
   exact .inl ⟨by simpa using h11, rfl, [], by rw [List.append_nil]⟩
 ·
  intro hall
  rw [zR]
  have hr : risesF l = true := (rises_iff l).2 fun i hi => hall i (by rw [pairsY_len]; omega)
  refine zA <| qR V <| qO V <| zT0 V V V V sz4 V V (zB V) V <| qN <| zG ?_
  exact zA4 (.inr V) Tryz.results73 V V ta4 V (.refl _) (.bool _) ⟨by rw [hr], rfl⟩
 ·
  intro j y hy hp
  have hjl := (zI.1 hy).1
  rw [pairsY_len] at hjl
  have hr : risesF l = false := by
   cases h : risesF l with
   | false => rfl
   | true => rw [(rises_iff l).1 h j (by omega)] at hp; cases hp
  rw [zR]
  exact zA4 (.inr V) Tryz.results73 V V ta4 V (.refl _) (.bool _) ⟨by rw [hr], rfl⟩
theorem two_iter (l : List (List Tk)) (hlen : l.length ≤ maxLen) (bid l0 : Nat) : IterOk Tryz.prog 91 [] [.ref bid 0] ((twoY l).map encP) (fun σ => σ.length = l0 ∧ σ[bid]? = some (.cells [.lst none 1 (l.map encC)])) := by
 refine iterOk_of fun id T m hok hm hyt hyf => ?_
 have hml : ((twoY l).map encP).length = (twoY l).length := zH ..
 refine zN Tryz.func91 V Tryz.ntmps91 (zB V) ?_
 rw [List.append_nil]
 show mwp _ _ _ _ _ _ _ (([] : MS) ++ T 0)
 refine zA <| qR V <| qO V <| zR0 V V (hok _).2 ta27 V <| qE V V zS V <| qM V V V <| qN <| zW ?_
 refine zD1 (α := Nat × Nat) [(0, _), (1, _), (6, _)] (fun x => [(7, .int .i64 (x.2 : Int))]) (fun x => T x.1) (fun x => x.1 ≤ m ∧ x.2 ≤ l.length ∧ twoY (l.drop x.2) = (twoY l).drop x.1) (fun x => l.length - x.2) (⟨0, 0⟩) (.keep V (.keep V (.keep V (.nil)))) (.keep V (.nil)) (⟨by simp, by simp, rfl⟩) (V) ?_
 rintro ⟨j, i⟩ ⟨hj, hi, he⟩
 dsimp only at hj hi he ⊢
 refine zA <| qR V <| qC V V V V V <| qN <| zA ?_
 refine zE V (fun h8 => ?_) (fun h8 => ?_)
 ·
  have hlt : i < l.length := by rw [zH] at h8; simpa using h8
  obtain ⟨a, hs⟩ : ∃ a, l[i]? = some a := ⟨_, zD hlt⟩
  refine zQ <| zA <| zW <| zA <| qR V <| qM V V V <| qA V V V <| qN <| zA <| qR V <| qM V V V <| qO V <| zU0 V V V (wadd (a := i) (b := 1) V (by simp only [maxLen] at hlen; omega)) ?_
  refine qA V V V <| qN <| zW ?_
  refine zD1 (α := Nat × Nat) [(0, _), (1, _), (3, _), (6, _), (7, _)] (fun y => [(4, .int .i64 (y.2 : Int))]) (fun y => T y.1) (fun y => y.1 ≤ m ∧ y.2 ≤ l.length ∧ (l.drop y.2).map (fun b => (a, b)) ++ twoY (l.drop (i + 1)) = (twoY l).drop y.1) (fun y => l.length - y.2) (⟨j, i + 1⟩) (.keep V (.keep V (.keep V (.keep V (.keep V (.nil)))))) (.keep V (.nil)) (⟨hj, by dsimp only; omega, by dsimp only; rw [← he, drop_at hs, twoY]⟩) (V) ?_
  rintro ⟨j2, k⟩ ⟨hj2, hk, he2⟩
  dsimp only at hj2 hk he2 ⊢
  refine zA <| zA <| qR V <| qM V V V <| qO V <| zR0 V V (hok _).2 ta27 V <| qE V V zS V <| qC V V V V V <| qN ?_
  refine zE V (fun h15 => ?_) (fun h15 => ?_)
  ·
   have hlt2 : k < l.length := by rw [zH] at h15; simpa using h15
   obtain ⟨b, hs2⟩ : ∃ a, l[k]? = some a := ⟨_, zD hlt2⟩
   have hnx := he2
   rw [drop_at hs2, List.map_cons, List.cons_append] at hnx
   obtain ⟨hy, hnx⟩ := drop_cons_get hnx
   replace hy : ((twoY l).map encP)[j2]? = some [encC a, encC b] := by rw [zJ1, hy]; rfl
   have hjl := (zI.1 hy).1
   refine zQ <| zA <| zW <| zA ?_
   rcases Nat.lt_or_eq_of_le hj2 with hjm | hjm
   ·
    refine zV0 [9] [_, T (j2 + 1)] mo (by decide) V V V V ?_
    refine dO V V V (zY V V Vv) <| zV V V (.cons (zR0 V V (hok _).2 ta27 V Vv) (.cons (zR0 V V (hok _).2 ta27 V Vv) (.nil))) <| zV V V (.cons (zY V V Vv) (.cons (zY V V Vv) (.nil))) <| zV V V (.cons (zO V zS sz68 (by decide) V V V (zE1 hs) Vv) (.cons (zO V zS sz68 (by decide) V V V (zE1 hs) Vv) (.nil))) ?_
    refine dO V V V (zP V V ta68 V Vv) <| zV V V (.cons (zR0 V V (hok _).2 ta27 V Vv) (.cons (zR0 V V (hok _).2 ta27 V Vv) (.nil))) <| zV V V (.cons (zY V V Vv) (.cons (zY V V Vv) (.nil))) <| zV V V (.cons (zO V zS sz68 (by decide) V V V (zE1 hs2) Vv) (.cons (zO V zS sz68 (by decide) V V V (zE1 hs2) Vv) (.nil))) ?_
    refine dO V V V (zP V V ta68 V Vv) <| zG1 V V V V ((hyt j2 _ hjm hy).at0 V V V) <| dO V V V (zL1 V V Vv) <| zO0 <| zJ V (V) <| zQ <| qR V <| qM V V V <| qO V <| zU0 V V V V <| qA V V V <| qN ?_
    refine ⟨⟨j2 + 1, k + 1⟩, by dsimp only; omega, ⟨by dsimp only; omega, by dsimp only; omega, hnx⟩, rfl, (.keep V (.keep V (.keep V (.keep V (.keep V (.nil)))))), (.eq V (zH1 hlt2 hlen) (.nil))⟩
   ·
    refine zV0 [9] [_, T (j2 + 1)] mo (by decide) V V V V ?_
    refine dO V V V (zY V V Vv) <| zV V V (.cons (zR0 V V (hok _).2 ta27 V Vv) (.cons (zR0 V V (hok _).2 ta27 V Vv) (.nil))) <| zV V V (.cons (zY V V Vv) (.cons (zY V V Vv) (.nil))) <| zV V V (.cons (zO V zS sz68 (by decide) V V V (zE1 hs) Vv) (.cons (zO V zS sz68 (by decide) V V V (zE1 hs) Vv) (.nil))) ?_
    refine dO V V V (zP V V ta68 V Vv) <| zV V V (.cons (zR0 V V (hok _).2 ta27 V Vv) (.cons (zR0 V V (hok _).2 ta27 V Vv) (.nil))) <| zV V V (.cons (zY V V Vv) (.cons (zY V V Vv) (.nil))) <| zV V V (.cons (zO V zS sz68 (by decide) V V V (zE1 hs2) Vv) (.cons (zO V zS sz68 (by decide) V V V (zE1 hs2) Vv) (.nil))) ?_
    refine dO V V V (zP V V ta68 V Vv) <| zG1 V V V V ((hyf j2 _ hjm hy).at0 V V V) <| dO V V V (zL1 V V Vv) <| zO0 <| zX V (V) ?_
    refine zS0 fun hcv hcl => ?_
    refine zG ?_
    exact ret_noneT (S' := T (j2 + 1)) (by simp) Tryz.results91 (by rw [(hok _).1, (hok _).1]; exact Nat.le_refl _) hcl ⟨rfl, by rw [hjm, if_pos (by omega)]⟩
  ·
   have hge2 : k = l.length := by rw [zH] at h15; simp at h15; omega
   refine zA1 <| qR V <| qO V <| zU0 V V V V <| qM V V V <| qN ?_
   refine ⟨⟨j2, i + 1⟩, by dsimp only; omega, ⟨by dsimp only; omega, by dsimp only; omega, by rw [hge2, List.drop_length] at he2; exact he2⟩, rfl, (.keep V (.keep V (.keep V (.nil)))), (.eq V (zH1 hlt hlen) (.nil))⟩
 ·
  have hge : i = l.length := by rw [zH] at h8; simp at h8; omega
  rw [hge, List.drop_length] at he
  have hdl := drop_nil_len he
  have hjm : j = m := by omega
  refine zS0 fun hcv hcl => ?_
  refine zA1 ?_
  exact ret_noneT (S' := T j) (by simp) Tryz.results91 (by rw [(hok _).1, (hok _).1]; exact Nat.le_refl _) hcl ⟨rfl, by rw [hjm, if_neg (by omega)]⟩
theorem two_spec (l : List (List Tk)) (S : MS) : MCalls Tryz.prog 79 [.lst none 1 (l.map encC)] S fun v σ' => v = .fn (.func 91) [] [.ref S.length 0] ∧ σ' = S ++ [.cells [.lst none 1 (l.map encC)]] := by
 refine zN Tryz.func79 V Tryz.ntmps79 (zB V) ?_
 refine zA <| qR V <| qB V V V V V <| qA V V V <| qN <| zA <| qR V <| qO V <| zN1 V V V <| qA V V V <| qN ?_
 refine zS0 fun hcv hcl => ?_
 refine zG ?_
 exact ret_tmpT (.inr V) Tryz.results79 V (.refl _) (hcv 2 _ rfl) (by simp) hcl Vv
theorem isNaNu_spec (m : Int) (S : MS) : MCalls Tryz.prog 103 [.int .u64 m] S fun v σ' => v = .bool false ∧ σ' = S := by
 refine zN Tryz.func103 V Tryz.ntmps103 (zB V) ?_
 refine zA <| qR V <| qA V V V <| qN <| zA <| qR V <| qM V V V <| qM V V V <| qC V V V V V <| qA V V V <| qN <| zG ?_
 exact zK (.inr V) Tryz.results103 V (.of_eq (by simp)) (.bool _) Vv
theorem compareu_spec (m n : Int) (S : MS) : MCalls Tryz.prog 96 [.int .u64 m, .int .u64 n] S fun v σ' => v = .int .i64 (cmpI m n) ∧ σ' = S := by
 refine zN Tryz.func96 V Tryz.ntmps96 (zB V) ?_
 refine zA <| qR V <| qA V V V <| qN <| zA <| qR V <| qM V V V ?_
 refine qX V V V V co103 (isNaNu_spec m _) ?_
 refine qA V V V <| qN <| zA <| qR V <| qM V V V ?_
 refine qX V V V V co103 (isNaNu_spec n _) ?_
 refine qA V V V <| qN <| zA <| zA <| qR V <| qM V V V <| qN <| zJ V (V) <| zQ <| zA <| zA <| qR V <| qM V V V <| qN <| zJ V (V) <| zQ <| zA <| zA <| qR V <| qM V V V <| qM V V V <| qC V V V V V <| qN ?_
 refine zE V (fun h16 => ?_) (fun h16 => ?_)
 ·
  refine zA <| qR V <| qA V V V <| qN <| zG ?_
  exact zK (.inr V) Tryz.results96 V (.of_eq (by unfold cmpI; simp_all <;> omega)) (.int _ _) Vv
 ·
  refine zQ <| zA <| zA <| qR V <| qM V V V <| qM V V V <| qC V V V V V <| qN ?_
  refine zE V (fun h19 => ?_) (fun h19 => ?_)
  ·
   refine zA <| qR V <| qA V V V <| qN <| zG ?_
   exact zK (.inr V) Tryz.results96 V (.of_eq (by unfold cmpI; simp_all <;> omega)) (.int _ _) Vv
  ·
   refine zQ <| zA <| qR V <| qA V V V <| qN <| zG ?_
   exact zK (.inr V) Tryz.results96 V (.of_eq (by unfold cmpI; simp_all <;> omega)) (.int _ _) Vv
theorem cmpOr_spec (l : List Int) (S : MS) : MCalls Tryz.prog 94 [.lst none 1 (l.map encI)] S fun v σ' => v = .int .i64 (orF l) ∧ σ' = S := by
 refine zN Tryz.func94 V Tryz.ntmps94 (zB V) ?_
 refine zP2 (t := 0) V fun hlen => ?_
 rw [zH] at hlen
 refine zA <| qR V <| qA V V V <| qN <| zA <| qR V <| qA V V V <| qN <| zA <| zA <| qR V <| qM V V V <| qE V V Tryz.underlying132 V <| qM V V V <| qN <| zW ?_
 refine zD1 (α := Nat) [(3, _), (6, _), (7, _)] (fun i => [(8, .int .i64 (i : Int))]) (fun i => []) (fun i => i ≤ l.length ∧ orF (l.drop i) = orF l) (fun i => l.length - i) (0) (.keep V (.keep V (.keep V (.nil)))) (.keep V (.nil)) (⟨by omega, rfl⟩) (V) ?_
 rintro i ⟨hi, he⟩
 refine zA <| qR V <| qC V V V V V <| qN <| zA ?_
 refine zE V (fun h9 => ?_) (fun h9 => ?_)
 ·
  have hlt : i < l.length := by simpa using h9
  obtain ⟨a, hs⟩ : ∃ q_, l[i]? = some q_ := ⟨_, zD hlt⟩
  refine zQ <| zA <| zW <| zA <| qR V <| qO V <| zO V Tryz.underlying132 sz3 (by decide) V V V (zE1 hs) ?_
  refine qO V <| zP V V ta3 V <| qA V V V <| qN <| zA <| qR V <| qM V V V <| qM V V V <| qC V V V V V <| qN ?_
  refine zE V (fun h14 => ?_) (fun h14 => ?_)
  ·
   refine zA <| qR V <| qM V V V <| qA V V V <| qN <| zG ?_
   exact zK (.inr V) Tryz.results94 V (.of_eq (by rw [← he, drop_at hs, or_cons, if_pos (by simpa using h14)]; rfl)) (.int _ _) Vv
  ·
   refine zQ <| qR V <| qO V <| zU0 V V V V <| qM V V V <| qN ?_
   refine ⟨i + 1, by omega, ⟨by omega, by rw [← he, drop_at hs, or_cons, if_neg (by simpa using h14)]⟩, rfl, (.keep V (.keep V (.keep V (.nil)))), (.eq V (zH1 hlt hlen) (.nil))⟩
 ·
  have hge : i = l.length := by simp at h9; omega
  refine zA1 <| zA <| qR V <| qM V V V <| qA V V V <| qN <| zG ?_
  exact zK (.inr V) Tryz.results94 V (.of_eq (by rw [← he, hge, List.drop_length]; rfl)) (.int _ _) Vv
theorem byTicks1_spec (x y : Tk) (S : MS) : MCalls Tryz.prog 93 [encT x, encT y] S fun v σ' => v = .int .i64 (tickC x y) ∧ σ' = S := by
 refine zN Tryz.func93 V Tryz.ntmps93 (zB V) ?_
 refine zA <| qR V <| qB V V V V V <| qB V V V V V <| qA V V V <| qN <| zA ?_
 refine zV0 [] [_] mo (by decide) V V V V ?_
 refine dO V V V (zL V V zQ3 Vv) <| dO V V V (zL0 V V V ta3 V Vv) <| dO V V V (zL V V zQ3 Vv) <| dO V V V (zL0 V V V ta3 V Vv) <| zV V V (.cons (zX0 V V V co95 (compare_spec x.1 y.1 _)) .nil) <| dO V V V (zL V V zA5 Vv) <| dO V V V (zL0 V V V ta25 V Vv) <| dO V V V (zL V V zA5 Vv) <| dO V V V (zL0 V V V ta25 V Vv) <| zV V V (.cons (zX0 V V V co96 (compareu_spec x.2 y.2 _)) .nil) <| dO V V V (zI1 V Tryz.underlying132 el3 V V (by decide) (by decide) V V Vv) ?_
 refine zV V V (.cons (zX0 V V V co94 (cmpOr_spec [cmpI x.1 y.1, cmpI x.2 y.2] _)) .nil) <| dO V V V (zC1 V V Vv) <| zO0 <| zG ?_
 exact zK (.inr V) Tryz.results93 V (.of_eq (by rw [or_two]; rfl)) (.int _ _) Vv
theorem cmpFuncT_spec (a b : List Tk) (S : MS) : MCalls Tryz.prog 92 [.lst none 2 (a.map encT), .lst none 2 (b.map encT), .fn (.func 93) [] []] S fun v σ' => v = .int .i64 (byTicksF a b) ∧ σ' = S := by
 refine zN Tryz.func92 V Tryz.ntmps92 (zB V) ?_
 refine zP2 (t := 0) V fun hlen => ?_
 rw [zH] at hlen
 refine zA <| qR V <| qA V V V <| qN <| zA <| zA <| qR V <| qM V V V <| qE V V zM V <| qM V V V <| qN <| zW ?_
 refine mwp_loopKJ (α := Nat) [(0, _), (1, _), (2, _), (11, _), (12, _)] (fun i => [(13, .int .i64 (i : Int))]) (fun i => []) (fun i => i ≤ a.length ∧ i ≤ b.length ∧ byTicksF (a.drop i) (b.drop i) = byTicksF a b) (fun i => a.length - i) (0) (Nat.le_refl _) (.keep V (.keep V (.keep V (.keep V (.keep V (.nil)))))) (.keep V (.nil)) (⟨by omega, by omega, rfl⟩) (V) ?_
 rintro i ⟨hi, hib, he⟩
 refine zA <| qR V <| qC V V V V V <| qN <| zA ?_
 refine zE V (fun h14 => ?_) (fun h14 => ?_)
 ·
  have hlt : i < a.length := by simpa using h14
  obtain ⟨x, hs⟩ : ∃ q_, a[i]? = some q_ := ⟨_, zD hlt⟩
  refine zQ <| zA <| zW <| zA <| qR V <| qM V V V <| qO V <| zO V zM sz87 (by decide) V V V (zE1 hs) ?_
  refine qO V <| zP V V ta87 V <| qO V <| zH0 V zm87 V V <| qA V V V <| qO V <| zT0 V V V V sz87 V V (zB V) V <| qN <| zA <| zA <| qR V <| qM V V V <| qM V V V <| qE V V zM V <| qC V V V V V <| qN ?_
  refine zE V (fun h21 => ?_) (fun h21 => ?_)
  ·
   have hbe : b.drop i = [] := by rw [zH] at h21; simp at h21; exact List.drop_eq_nil_of_le (by omega)
   refine zA <| qR V <| qA V V V <| qN <| zG ?_
   exact zK (.inr V) Tryz.results92 V (.of_eq (by rw [← he, hbe, drop_at hs]; rfl)) (.int _ _) Vv
  ·
   have hltb : i < b.length := by rw [zH] at h21; simp at h21; omega
   obtain ⟨y, hs2⟩ : ∃ s, b[i]? = some s := ⟨_, zD hltb⟩
   refine zQ <| zA <| qR V <| qM V V V <| qM V V V <| qO V <| zO V zM sz87 (by decide) V V V (zE1 hs2) ?_
   refine qO V <| zP V V ta87 V <| qO V <| zH0 V zm87 V V <| qO V <| zT0 V V V V sz87 V V (zB V) V <| qN <| zA <| qR V <| qM V V V <| qL V V V V ta87 V <| qL V V V V ta87 V ?_
   refine qX V V V V co93 (byTicks1_spec x y _) ?_
   refine qA V V V <| qN <| zA <| qR V <| qM V V V <| qC V V V V V <| qN ?_
   refine zE V (fun h31 => ?_) (fun h31 => ?_)
   ·
    refine zA <| qR V <| qM V V V <| qA V V V <| qN <| zG ?_
    exact zK (.inr V) Tryz.results92 V (.of_eq (by rw [← he, ticks_at hs hs2, if_pos (by simpa using h31)])) (.int _ _) Vv
   ·
    refine zQ <| qR V <| qO V <| zU0 V V V V <| qM V V V <| qN ?_
    refine ⟨i + 1, _, by omega, ⟨by omega, by omega, by rw [← he, ticks_at hs hs2, if_neg (by simpa using h31)]⟩, rfl, .nil, (.old V V (.old V V (.old V V (.old V V (.old V V (.nil)))))), (.new' V (zH1 hlt hlen) (.int _ _) (.nil))⟩
 ·
  have hge : i = a.length := by simp at h14; omega
  refine zA1 <| zA <| zA <| qR V <| qM V V V <| qE V V zM V <| qM V V V <| qE V V zM V <| qC V V V V V <| qN ?_
  refine zE V (fun h38 => ?_) (fun h38 => ?_)
  ·
   refine zA <| qR V <| qA V V V <| qN <| zG ?_
   exact zK (.inr V) Tryz.results92 V (.of_eq (by simp at h38; rw [← he, hge, List.drop_length, drop_at (zD (by omega : a.length < b.length))]; rfl)) (.int _ _) Vv
  ·
   refine zQ <| zA <| qR V <| qA V V V <| qN <| zG ?_
   exact zK (.inr V) Tryz.results92 V (.of_eq (by simp at h38; rw [← he, hge, List.drop_length, List.drop_eq_nil_of_le (by omega : b.length ≤ a.length)]; rfl)) (.int _ _) Vv
theorem byTicks_spec (a b : List Tk) (S : MS) : MCalls Tryz.prog 80 [.lst none 2 (a.map encT), .lst none 2 (b.map encT)] S fun v σ' => v = .int .i64 (byTicksF a b) ∧ σ' = S := by
 refine zN Tryz.func80 V Tryz.ntmps80 (zB V) ?_
 refine zA <| qR V <| qA V V V <| qN <| zA <| qR V <| qM V V V <| qM V V V ?_
 refine qX V V V V co92 (cmpFuncT_spec a b _) ?_
 refine qA V V V <| qN <| zG ?_
 exact zK (.inr V) Tryz.results80 V (.of_eq (V)) (.int _ _) Vv
theorem isCause_spec (l : List (List Tk)) (S : MS) : MCalls Tryz.prog 64 [.lst none 1 (l.map encC)] S fun v σ' => v = .bool (isCauseF l) ∧ σ' = S := by
 refine zN Tryz.func64 V Tryz.ntmps64 (zB V) ?_
 refine zP2 (t := 0) V fun hlen => ?_
 rw [zH] at hlen
 refine zA <| qR V <| qO V <| zH0 V zm4 V V <| qN <| zA <| zA <| qR V <| qM V V V <| qE V V zS V <| qM V V V <| qN <| zW ?_
 refine zD1 (α := Nat) [(0, _), (2, _), (7, _), (8, _)] (fun i => [(9, .int .i64 (i : Int))]) (fun i => [.cells [.bool false]]) (fun i => i ≤ l.length ∧ (l.take i).all isClockF = true) (fun i => l.length - i) (0) (.keep V (.keep V (.keep V (.keep V (.nil))))) (.keep V (.nil)) (⟨by omega, rfl⟩) (V) ?_
 rintro i ⟨hi, hall⟩
 refine zA <| qR V <| qC V V V V V <| qN <| zA ?_
 refine zE V (fun h10 => ?_) (fun h10 => ?_)
 ·
  have hlt : i < l.length := by simpa using h10
  obtain ⟨c, hs⟩ : ∃ q_, l[i]? = some q_ := ⟨_, zD hlt⟩
  refine zQ <| zA <| zW <| zA <| qR V <| qO V <| zO V zS sz68 (by decide) V V V (zE1 hs) ?_
  refine qO V <| zP V V ta68 V <| qA V V V <| qN <| zA <| qR V <| qM V V V ?_
  refine qX V V V V co63 (clkIs_spec c _) ?_
  refine qO V <| zL1 V V <| qN ?_
  refine zE V (fun h15 => ?_) (fun h15 => ?_)
  ·
   refine zA <| qR V <| qO V <| zT0 V V V V sz4 V V (zB V) V <| qN <| zG ?_
   exact zA4 (.inr V) Tryz.results64 V V ta4 V (.refl _) (.bool _) ⟨by rw [isCauseF, List.all_eq_false.2 ⟨c, zU hs, by simpa using h15⟩]; rfl, rfl⟩
  ·
   refine zQ <| qR V <| qO V <| zU0 V V V V <| qM V V V <| qN ?_
   refine ⟨i + 1, by omega, ⟨by omega, ?_⟩, rfl, (.keep V (.keep V (.keep V (.keep V (.nil))))), (.eq V (zH1 hlt hlen) (.nil))⟩
   rw [List.take_add_one, hs, List.all_append, hall]
   simpa using h15
 ·
  have hge : i = l.length := by simp at h10; omega
  rw [hge, List.take_length] at hall
  have hcl := hall
  refine zA1 <| zA <| zA <| qR V <| qM V V V ?_
  refine qX V V V V co79 (two_spec l _) ?_
  rw [zR]
  refine qN <| zW ?_
  refine mwp_rangeB (ok := fun σ => σ.length = S.length + 3 ∧ σ[(S ++ [MObj.cells [.bool false]]).length]? = some (.cells [.lst none 1 (l.map encC)])) (ys := (twoY l).map encP) .ret (.inl V) (fun j => (match (twoY l)[j]? with | some p => pairF p.1 p.2 | none => true)) (fun j => ([.cells [.bool false], .cells [.lst none 1 (l.map encC)]] : MS)) (fun j => ([.cells [.bool false], .cells [.lst none 1 (l.map encC)]] : MS)) (fun j => V) (fun j => V) V (fun j o ho n hn => by simp at ho; rcases ho with rfl | rfl <;> intro x hx <;> (simp at hx; subst hx; first | exact .bool _ | exact cl_texts _ _ | exact cl_clocks _ _)) (fun j o ho n hn => by simp at ho; rcases ho with rfl | rfl <;> intro x hx <;> (simp at hx; subst hx; first | exact .bool _ | exact cl_texts _ _ | exact cl_clocks _ _)) V co91 V (by simp) ((two_iter l hlen _ _).weak fun σ h => h.1) (fun j => ⟨by simp, get_box⟩) (fun j s q => ⟨by simp, get_box⟩) V (fun y hy => by obtain ⟨i, _, rfl⟩ := List.mem_map.1 hy; rfl) ?_ ?_ ?_
  ·
   intro j y hy hbef L'
   rw [zJ1] at hy
   obtain ⟨⟨a, b⟩, hp, rfl⟩ := Option.map_eq_some_iff.1 hy
   rw [hp]
   obtain ⟨ha, hb⟩ := two_mem (zU hp)
   have la := clock_len (List.all_eq_true.1 hcl a ha)
   have lb := clock_len (List.all_eq_true.1 hcl b hb)
   refine zA <| qR V <| qA V V V <| qN <| qR V <| qA V V V <| qN ?_
   refine ⟨rfl, [], by rw [List.append_nil], ?_⟩
   rw [List.append_nil]
   refine zW <| zA <| qR V <| qM V V V <| qM V V V ?_
   refine qX V V V V co80 (byTicks_spec a b _) ?_
   refine qC V V V V V <| qM V V V ?_
   refine zB0 (fun h25 => ?_) (fun h25 => ?_)
   ·
    refine qT V V V V <| qP V V V V <| qN <| zX V (V) <| zA <| qR V <| qO V <| op_store_mid V V V V sz4 V V (zB V) V <| qN <| zG ?_
    exact .inr ⟨by simp only [pairF]; simp_all <;> (intros; omega), rfl, [], by rw [List.append_nil]; rfl⟩
   ·
    refine qM V V V <| qM V V V ?_
    refine qX V V V V co81 (clkCmp_spec a b (by omega) _) ?_
    refine qC V V V V V <| qP V V V V <| qN ?_
    refine zE V (fun h30 => ?_) (fun h30 => ?_)
    ·
     refine zA <| qR V <| qO V <| op_store_mid V V V V sz4 V V (zB V) V <| qN <| zG ?_
     exact .inr ⟨by simp only [pairF]; simp_all <;> (intros; omega), rfl, [], by rw [List.append_nil]; rfl⟩
    ·
     refine zQ ?_
     exact .inl ⟨by simp only [pairF]; simp_all, rfl, [], by rw [List.append_nil]⟩
  ·
   intro hall2
   rw [zR]
   have hr : isCauseF l = true := by
    rw [isCauseF, hcl, Bool.true_and, two_iff]
    intro p hp
    obtain ⟨j, hj, rfl⟩ := List.mem_iff_getElem.1 hp
    have := hall2 j (by rw [zH]; exact hj)
    rw [zD hj] at this
    exact this
   refine zA <| qR V <| qO V <| zT0 V V V V sz4 V V (zB V) V <| qN <| zG ?_
   exact zA4 (.inr V) Tryz.results64 V V ta4 V (.refl _) (.bool _) ⟨by rw [hr], rfl⟩
  ·
   intro j y hy hp
   rw [zJ1] at hy
   obtain ⟨⟨a, b⟩, hq, rfl⟩ := Option.map_eq_some_iff.1 hy
   rw [hq] at hp
   replace hp : pairF a b = false := hp
   have hr : isCauseF l = false := by
    rw [isCauseF, hcl, Bool.true_and]
    cases h : pairsF l with
    | false => rfl
    | true =>
     have : pairF a b = true := (two_iff l).1 h _ (zU hq)
     rw [this] at hp
     cases hp
   rw [zR]
   exact zA4 (.inr V) Tryz.results64 V V ta4 V (.refl _) (.bool _) ⟨by rw [hr], rfl⟩
theorem one_of {α : Type} {s : List α} (h : s.length = 1) : ∃ t, s = [t] := by
 match s, h with
 | [t], _ => exact ⟨t, rfl⟩
theorem two_of' {α : Type} {s : List α} (h : s.length = 2) : ∃ t u, s = [t, u] := by
 match s, h with
 | [t, u], _ => exact ⟨t, u, rfl⟩
theorem last_no {n m : Int} {s : List Bs} (h : ¬ s = []) (h1 : ¬ s.length = 1) : isLastF n m s = false := by
 match s, h, h1 with
 | [], h, _ => exact absurd rfl h
 | [t], _, h => exact absurd rfl h
 | _ :: _ :: _, _, _ => rfl
theorem one_ins {k : Int} {ins : List Sch} (h : partsF k = (ins.length : Int)) (hk : partsF k = 1) : ∃ t, ins = [t] := one_of (by omega)
theorem isB_mk {k : Int} {ins : List Sch} {fs : List (Val → Bool)} {n m : Int} {s : List Bs} {c : List (List Tk)} {w : List Val} : isB k ins fs (.mk n m s c w) = (bareF k (.mk n m s c w) && decide (w.length ≤ 40) && decide (c.length ≤ 40) &&
 (if k = 1 then true else if k = 2 then decide (n ≤ 1) else if k = 3 then isRowF s
  else if k = 4 then isRowF s && decide (s.length = w.length) && w.all (fun x => fs.headD (fun _ => false) x && !noneF (ins.headD default) x)
  else if k = 5 then (match w with | [x, y] => fs.headD (fun _ => false) x && fs.tail.headD (fun _ => false) y | _ => false)
  else if k = 6 then isLastF n m s
  else if k = 7 then (match c with | [] => true | [c] => decide (0 < c.length) && isClockF c | _ => false)
  else decide (c.length = w.length) && isCauseF c && w.all (fs.headD (fun _ => false)))) := rfl
theorem isVF_mk {ins : List Sch} {n m : Int} {s : List Bs} {c : List (List Tk)} {w : List Val} (k : Int) : isVF (.mk k ins) (.mk n m s c w) = (bareF k (.mk n m s c w) && decide (w.length ≤ 40) && decide (c.length ≤ 40) &&
 (if k = 1 then true else if k = 2 then decide (n ≤ 1) else if k = 3 then isRowF s
  else if k = 4 then isRowF s && decide (s.length = w.length) && w.all (fun x => (isVL ins).headD (fun _ => false) x && !noneF (ins.headD default) x)
  else if k = 5 then (match w with | [x, y] => (isVL ins).headD (fun _ => false) x && (isVL ins).tail.headD (fun _ => false) y | _ => false)
  else if k = 6 then isLastF n m s
  else if k = 7 then (match c with | [] => true | [c] => decide (0 < c.length) && isClockF c | _ => false)
  else decide (c.length = w.length) && isCauseF c && w.all ((isVL ins).headD (fun _ => false)))) := by rw [isVF, isB_mk]
theorem _root_.zW1 : type_of% @isVF_mk := @isVF_mk
theorem match2_no {f g : Val → Bool} {w : List Val} : w.length ≠ 2 → (match w with | [x, y] => f x && g y | _ => false) = false := by
 intro h
 match w, h with
 | [], _ => rfl
 | [_], _ => rfl
 | [_, _], h => exact absurd rfl h
 | _ :: _ :: _ :: _, _ => rfl
theorem match1_no {c : List (List Tk)} : ¬ c = [] → c.length ≠ 1 → (match c with | [] => true | [c] => decide (0 < c.length) && isClockF c | _ => false) = false := by
 intro h0 h
 match c, h0, h with
 | [], h, _ => exact absurd rfl h
 | [_], _, h => exact absurd rfl h
 | _ :: _ :: _, _, _ => rfl
theorem k8_of {k : Int} {n : Nat} (h : partsF k = (n : Int)) : k = 1 ∨ k = 2 ∨ k = 3 ∨ k = 4 ∨ k = 5 ∨ k = 6 ∨ k = 7 ∨ k = 8 := by
 unfold partsF at h
 split at h
 ·omega
 ·split at h
  ·omega
  ·split at h <;> omega
theorem short_any (l : List Bs) : (!(l.any fun s => decide (16 < s.length))) = shortF l := by
 unfold shortF
 rw [zC]
 simp
theorem any_all {l : List Val} {f g : Val → Bool} : (!(l.any fun x => !f x || g x)) = l.all fun x => f x && !g x := by
 rw [zC]
 simp
theorem any_all' {l : List Val} {f : Val → Bool} : (!(l.any fun x => !f x)) = l.all f := by
 rw [zC]
 simp
theorem xIndex_spec (S : MS) (l : List Bs) (p : Bs → Bool) (kf : FuncId) (first caps : List MV) (hco : CallOk Tryz.prog kf) (hp : ∀ x ∈ l, ∀ X : MS, MCalls Tryz.prog kf (first ++ [encX x] ++ caps) (S ++ X) fun v σ' => v = .bool (p x) ∧ σ' = S ++ X) : MCalls Tryz.prog 85 [.lst none 1 (l.map encX), .fn (.func kf) first caps] S fun v σ' => v = .int .i64 (findGo p 0 l) ∧ σ' = S := by
 refine zN Tryz.func85 V Tryz.ntmps85 (zB V) ?_
 refine zP2 (t := 0) V fun hlen => ?_
 rw [zH] at hlen
 refine zA <| qR V <| qA V V V <| qN <| zA <| zA <| qR V <| qM V V V <| qE V V zA0 V <| qM V V V <| qN <| zW ?_
 refine zD1 (α := Nat) [(0, _), (1, _), (7, _)] (fun i => [(8, .int .i64 (i : Int))]) (fun i => []) (fun i => i ≤ l.length ∧ findGo p i (l.drop i) = findGo p 0 l) (fun i => l.length - i) (0) (.keep V (.keep V (.keep V (.nil)))) (.keep V (.nil)) (⟨by omega, rfl⟩) (V) ?_
 rintro i ⟨hi, he⟩
 refine zA <| qR V <| qC V V V V V <| qN <| zA ?_
 refine zE V (fun h9 => ?_) (fun h9 => ?_)
 ·
  rw [zH] at h9
  have hlt : i < l.length := by simpa using h9
  obtain ⟨x, hs⟩ : ∃ x, l[i]? = some x := ⟨_, zD hlt⟩
  refine zQ <| zA <| zW <| zA <| qR V <| qM V V V <| qA V V V <| qN <| zA <| qR V <| qM V V V <| qM V V V <| qM V V V <| qO V <| zO V zA0 sz9 (by decide) V V V (zE1 hs) ?_
  refine qO V <| zP V V ta9 V ?_
  refine zH3 V (zX0 V V V hco ((hp _ (zU hs) _).mono ?_))
  rintro _ _ ⟨rfl, rfl⟩
  refine qN ?_
  refine zE V (fun h16 => ?_) (fun h16 => ?_)
  ·
   refine zA <| qR V <| qM V V V <| qA V V V <| qN <| zG ?_
   exact zK (.inr V) Tryz.results85 V (.of_eq (by rw [← he, find_at hs, h16]; rfl)) (.int _ _) Vv
  ·
   refine zQ <| qR V <| qO V <| zU0 V V V V <| qM V V V <| qN ?_
   refine ⟨i + 1, by omega, ⟨by omega, by rw [← he, find_at hs, h16]; rfl⟩, rfl, (.keep V (.keep V (.keep V (.nil)))), (.eq V (zH1 hlt hlen) (.nil))⟩
 ·
  rw [zH] at h9
  have hge : i = l.length := by simp at h9; omega
  refine zA1 <| zA <| qR V <| qA V V V <| qN <| zG ?_
  exact zK (.inr V) Tryz.results85 V (.of_eq (by rw [← he, hge, List.drop_length]; rfl)) (.int _ _) Vv
theorem xContains_spec (S : MS) (l : List Bs) (p : Bs → Bool) (kf : FuncId) (first caps : List MV) (hco : CallOk Tryz.prog kf) (hp : ∀ x ∈ l, ∀ X : MS, MCalls Tryz.prog kf (first ++ [encX x] ++ caps) (S ++ X) fun v σ' => v = .bool (p x) ∧ σ' = S ++ X) : MCalls Tryz.prog 74 [.lst none 1 (l.map encX), .fn (.func kf) first caps] S fun v σ' => v = .bool (l.any p) ∧ σ' = S := by
 refine zN Tryz.func74 V Tryz.ntmps74 (zB V) ?_
 refine zA <| qR V <| qA V V V <| qN <| zA <| qR V <| qM V V V <| qM V V V ?_
 refine qX V V V V co85 (xIndex_spec (S ++ []) l p kf first caps hco (by rw [List.append_nil]; exact hp)) ?_
 refine qC V V V V V <| qA V V V <| qN <| zG ?_
 exact zK (.inr V) Tryz.results74 V (.of_eq (by rw [find_any p 0 l])) (.bool _) Vv
theorem vIndex_spec (S : MS) (l : List Val) (p : Val → Bool) (kf : FuncId) (first caps : List MV) (hco : CallOk Tryz.prog kf) (hp : ∀ x ∈ l, ∀ X : MS, MCalls Tryz.prog kf (first ++ [encV x] ++ caps) (S ++ X) fun v σ' => v = .bool (p x) ∧ σ' = S ++ X) : MCalls Tryz.prog 76 [.lst none 5 (encVs l), .fn (.func kf) first caps] S fun v σ' => v = .int .i64 (findGo p 0 l) ∧ σ' = S := by
 refine zN Tryz.func76 V Tryz.ntmps76 (zB V) ?_
 refine zP2 (t := 0) V fun hlen => ?_
 rw [zZ] at hlen
 refine zA <| qR V <| qA V V V <| qN <| zA <| zA <| qR V <| qM V V V <| qE V V zT V <| qM V V V <| qN <| zW ?_
 refine zD1 (α := Nat) [(0, _), (1, _), (7, _)] (fun i => [(8, .int .i64 (i : Int))]) (fun i => []) (fun i => i ≤ l.length ∧ findGo p i (l.drop i) = findGo p 0 l) (fun i => l.length - i) (0) (.keep V (.keep V (.keep V (.nil)))) (.keep V (.nil)) (⟨by omega, rfl⟩) (V) ?_
 rintro i ⟨hi, he⟩
 refine zA <| qR V <| qC V V V V V <| qN <| zA ?_
 refine zE V (fun h9 => ?_) (fun h9 => ?_)
 ·
  rw [zZ] at h9
  have hlt : i < l.length := by simpa using h9
  obtain ⟨x, hs⟩ : ∃ x, l[i]? = some x := ⟨_, zD hlt⟩
  obtain ⟨n1, m1, s1, c1, w1⟩ := x
  refine zQ <| zA <| zW <| zA <| qR V <| qM V V V <| qA V V V <| qN <| zA <| qR V <| qM V V V <| qM V V V <| qM V V V <| qO V <| zO V zT sz30 (by decide) V V V (zE5 hs) ?_
  refine qO V <| zP V V ta30 V ?_
  refine zH3 V (zX0 V V V hco ((hp _ (zU hs) _).mono ?_))
  rintro _ _ ⟨rfl, rfl⟩
  refine qN ?_
  refine zE V (fun h16 => ?_) (fun h16 => ?_)
  ·
   refine zA <| qR V <| qM V V V <| qA V V V <| qN <| zG ?_
   exact zK (.inr V) Tryz.results76 V (.of_eq (by rw [← he, find_at hs, h16]; rfl)) (.int _ _) Vv
  ·
   refine zQ <| qR V <| qO V <| zU0 V V V V <| qM V V V <| qN ?_
   refine ⟨i + 1, by omega, ⟨by omega, by rw [← he, find_at hs, h16]; rfl⟩, rfl, (.keep V (.keep V (.keep V (.nil)))), (.eq V (zH1 hlt hlen) (.nil))⟩
 ·
  rw [zZ] at h9
  have hge : i = l.length := by simp at h9; omega
  refine zA1 <| zA <| qR V <| qA V V V <| qN <| zG ?_
  exact zK (.inr V) Tryz.results76 V (.of_eq (by rw [← he, hge, List.drop_length]; rfl)) (.int _ _) Vv
theorem vContains_spec (S : MS) (l : List Val) (p : Val → Bool) (kf : FuncId) (first caps : List MV) (hco : CallOk Tryz.prog kf) (hp : ∀ x ∈ l, ∀ X : MS, MCalls Tryz.prog kf (first ++ [encV x] ++ caps) (S ++ X) fun v σ' => v = .bool (p x) ∧ σ' = S ++ X) : MCalls Tryz.prog 59 [.lst none 5 (encVs l), .fn (.func kf) first caps] S fun v σ' => v = .bool (l.any p) ∧ σ' = S := by
 refine zN Tryz.func59 V Tryz.ntmps59 (zB V) ?_
 refine zA <| qR V <| qA V V V <| qN <| zA <| qR V <| qM V V V <| qM V V V ?_
 refine qX V V V V co76 (vIndex_spec (S ++ []) l p kf first caps hco (by rw [List.append_nil]; exact hp)) ?_
 refine qC V V V V V <| qA V V V <| qN <| zG ?_
 exact zK (.inr V) Tryz.results59 V (.of_eq (by rw [find_any p 0 l])) (.bool _) Vv
theorem isRow1_spec (s : Bs) (S : MS) : MCalls Tryz.prog 75 [.str (bs s)] S fun v σ' => v = .bool (decide (16 < s.length)) ∧ σ' = S := by
 refine zN Tryz.func75 V Tryz.ntmps75 (zB V) ?_
 refine zA <| qR V <| qA V V V <| qN <| zA <| qR V <| qM V V V <| qO V <| zD2 V zJ0 V <| qC V V V V V <| qA V V V <| qN <| zG ?_
 exact zK (.inr V) Tryz.results75 V (.of_eq (by congr 1; rw [zC]; simp; omega)) (.bool _) Vv
theorem isRow_spec (l : List Bs) (S : MS) : MCalls Tryz.prog 58 [.lst none 1 (l.map encX)] S fun v σ' => v = .bool (isRowF l) ∧ σ' = S := by
 refine zN Tryz.func58 V Tryz.ntmps58 (zB V) ?_
 refine zA <| qR V <| qA V V V <| qN <| zA <| qR V <| qM V V V <| qE V V zA0 V <| qC V V V V V <| qM V V V ?_
 refine zB0 (fun h6 => ?_) (fun h6 => ?_)
 ·
  refine qM V V V ?_
  refine qX V V V V co73 (rowsIs_spec l _) ?_
  refine qP V V V V <| qM V V V ?_
  refine zB0 (fun h10 => ?_) (fun h10 => ?_)
  ·
   refine qM V V V ?_
   refine qX V V V V co74 (xContains_spec _ l (fun s => decide (16 < s.length)) _ [] [] co75 (fun x _ X => isRow1_spec x _)) ?_
   refine qO V <| zL1 V V <| qP V V V V <| qA V V V <| qN <| zG ?_
   exact zK (.inr V) Tryz.results58 V (.of_eq (by congr 1; unfold isRowF; rw [← short_any, zC]; simp_all <;> omega)) (.bool _) Vv
  ·
   refine qS V <| qS V <| qS V <| qP V V V V <| qA V V V <| qN <| zG ?_
   exact zK (.inr V) Tryz.results58 V (.of_eq (by congr 1; unfold isRowF; rw [← short_any, zC]; simp_all <;> omega)) (.bool _) Vv
 ·
  refine qS V <| qS V <| qP V V V V <| qM V V V <| qS V <| qS V <| qS V <| qP V V V V <| qA V V V <| qN <| zG ?_
  exact zK (.inr V) Tryz.results58 V (.of_eq (by congr 1; unfold isRowF; rw [← short_any, zC]; simp_all <;> omega)) (.bool _) Vv
theorem _root_.zN4 : type_of% @Tryz.results62 := @Tryz.results62
theorem isLast_spec (n m : Int) (s : List Bs) (c : List (List Tk)) (w : List Val) (hn : 0 ≤ n) (hm : 0 ≤ m) (S : MS) : MCalls Tryz.prog 62 [encV (.mk n m s c w)] S fun v σ' => v = .bool (isLastF n m s) ∧ σ' = S := by
 refine zN Tryz.func62 V Tryz.ntmps62 (zB V) ?_
 refine zA <| qR V <| qB V V V V V <| qA V V V <| qN <| zA <| zA <| qR V <| qF V V V zT1 <| qL V V V V ta26 V <| qE V V zA0 V <| qC V V V V V <| qN ?_
 refine zE V (fun h6 => ?_) (fun h6 => ?_)
 ·
  have hs0 : s = [] := by simpa using h6
  subst hs0
  refine zA <| qR V <| qF V V V zB4 <| qL V V V V ta25 V <| qC V V V V V <| qM V V V ?_
  refine zB0 (fun h10 => ?_) (fun h10 => ?_)
  ·
   refine qF V V V zX4 <| qL V V V V ta25 V <| qC V V V V V <| qP V V V V <| qA V V V <| qN <| zG ?_
   exact zK (.inr V) zN4 V (.of_eq (by first | (rw [hF]; done) | (congr 1; rw [zC]; simp_all [isLastF]; done) | (congr 1; rw [zC]; simp_all [isLastF]; omega))) (.bool _) Vv
  ·
   refine qS V <| qS V <| qS V <| qP V V V V <| qA V V V <| qN <| zG ?_
   exact zK (.inr V) zN4 V (.of_eq (by first | (rw [hF]; done) | (congr 1; rw [zC]; simp_all [isLastF]; done) | (congr 1; rw [zC]; simp_all [isLastF]; omega))) (.bool _) Vv
 ·
  have hs0 : ¬ s = [] := by simpa using h6
  refine zQ <| zA <| qR V <| qF V V V zT1 <| qL V V V V ta26 V <| qE V V zA0 V <| qC V V V V V <| qM V V V ?_
  refine zB0 (fun h19 => ?_) (fun h19 => ?_)
  ·
   obtain ⟨t, rfl⟩ := one_of (by rw [zH] at h19; simp at h19; omega : s.length = 1)
   refine qF V V V zT1 <| qL V V V V ta26 V <| qO V <| zO V zA0 sz9 (by decide) V V V (show _ = some (encX t) from V) ?_
   refine qO V <| zP V V ta9 V <| qO V <| zD2 V zJ0 V <| qC V V V V V <| qP V V V V <| qM V V V ?_
   refine zB0 (fun h27 => ?_) (fun h27 => ?_)
   ·
    have h27n : t.length ≤ 16 := by simp at h27; omega
    refine qF V V V zB4 <| qL V V V V ta25 V <| qC V V V V V <| qM V V V ?_
    refine zB0 (fun h31 => ?_) (fun h31 => ?_)
    ·
     refine qS V <| qS V <| qS V <| qP V V V V <| qM V V V <| qT V V V V <| qS V <| qP V V V V <| qP V V V V <| qA V V V <| qN <| zG ?_
     exact zK (.inr V) zN4 V (.of_eq (by first | (rw [hF]; done) | (congr 1; rw [zC]; simp_all [isLastF]; done) | (congr 1; rw [zC]; simp_all [isLastF]; omega))) (.bool _) Vv
    ·
     have hn0 : n = 0 := by simp at h31; omega
     subst hn0
     refine qF V V V zX4 <| qL V V V V ta25 V <| qC V V V V V <| qP V V V V <| qM V V V ?_
     refine zB0 (fun h36 => ?_) (fun h36 => ?_)
     ·
      refine qT V V V V <| qS V <| qP V V V V <| qP V V V V <| qA V V V <| qN <| zG ?_
      exact zK (.inr V) zN4 V (.of_eq (by first | (rw [hF]; done) | (congr 1; rw [zC]; simp_all [isLastF]; done) | (congr 1; rw [zC]; simp_all [isLastF]; omega))) (.bool _) Vv
     ·
      have hm0 : m = 0 := by simp at h36; omega
      subst hm0
      refine qF V V V zT1 <| qL V V V V ta26 V <| qO V <| zO V zA0 sz9 (by decide) V V V (show _ = some (encX t) from V) ?_
      refine qO V <| zP V V ta9 V <| qO V <| zZ2 V V V V <| qP V V V V <| qP V V V V <| qA V V V <| qN <| zG ?_
      exact zK (.inr V) zN4 V (.of_eq (by first | (rw [hF]; done) | (congr 1; rw [zC]; simp_all [isLastF]; done) | (congr 1; rw [zC]; simp_all [isLastF]; omega))) (.bool _) Vv
   ·
    refine qT V V V V <| qT V V V V <| qT V V V V <| qS V <| qS V <| qS V <| qP V V V V <| qA V V V <| qN <| zG ?_
    exact zK (.inr V) zN4 V (.of_eq (by first | (rw [hF]; done) | (congr 1; rw [zC]; simp_all [isLastF]; done) | (congr 1; rw [zC]; simp_all [isLastF]; omega))) (.bool _) Vv
  ·
   have hF : isLastF n m s = false := last_no hs0 (fun e => by rw [zH, e] at h19; simp at h19)
   refine qT V V V V <| qS V <| qS V <| qP V V V V <| qM V V V <| qT V V V V <| qT V V V V <| qT V V V V <| qS V <| qS V <| qS V <| qP V V V V <| qA V V V <| qN ?_
   refine zG ?_
   exact zK (.inr V) zN4 V (.of_eq (by first | (rw [hF]; done) | (congr 1; rw [zC]; simp_all [isLastF]; done) | (congr 1; rw [zC]; simp_all [isLastF]; omega))) (.bool _) Vv
theorem _root_.zS4 : type_of% @Tryz.ntmps56 := @Tryz.ntmps56
theorem _root_.zW0 : type_of% @Tryz.results56 := @Tryz.results56
theorem bare_spec (k : Int) (hk : k = 1 ∨ k = 2 ∨ k = 3 ∨ k = 4 ∨ k = 5 ∨ k = 6 ∨ k = 7 ∨ k = 8) (n m : Int) (s : List Bs) (c : List (List Tk)) (w : List Val) (S : MS) : MCalls Tryz.prog 56 [.int .i64 k, encV (.mk n m s c w)] S fun v σ' => v = .bool (bareF k (.mk n m s c w)) ∧ σ' = S := by
 rcases hk with rfl | rfl | rfl | rfl | rfl | rfl | rfl | rfl
 ·
  refine zN zJ4 V zS4 (zB V) ?_
  refine zA <| qR V <| qB V V V V V <| qA V V V <| qN <| zA <| qR V <| qM V V V <| qC V V V V V <| qM V V V <| qS V <| qS V <| qP V V V V <| qM V V V <| qS V <| qS V <| qP V V V V <| qA V V V <| qN <| zA <| qR V ?_
  refine qM V V V <| qC V V V V V <| qM V V V <| qM V V V <| qC V V V V V <| qP V V V V <| qM V V V <| qM V V V <| qC V V V V V <| qP V V V V <| qA V V V <| qN <| zA <| qR V <| qM V V V <| qC V V V V V <| qM V V V ?_
  refine qM V V V <| qC V V V V V <| qP V V V V <| qA V V V <| qN <| zA <| qR V <| qM V V V <| qC V V V V V <| qM V V V <| qM V V V <| qC V V V V V <| qP V V V V <| qM V V V <| qM V V V <| qC V V V V V <| qP V V V V ?_
  refine qA V V V <| qN <| zA <| qR V <| qM V V V <| qM V V V <| qS V <| qS V <| qS V <| qP V V V V <| qM V V V <| qM V V V <| qC V V V V V <| qM V V V <| qF V V V zX4 <| qL V V V V ta25 V <| qC V V V V V <| qP V V V V ?_
  refine qP V V V V <| qM V V V ?_
  refine zB0 (fun h60 => ?_) (fun h60 => ?_)
  ·
   refine qM V V V <| qM V V V <| qF V V V zT1 <| qL V V V V ta26 V <| qE V V zA0 V <| qC V V V V V <| qP V V V V <| qP V V V V <| qM V V V ?_
   refine zB0 (fun h69 => ?_) (fun h69 => ?_)
   ·
    refine qM V V V <| qM V V V <| qF V V V zS1 <| qL V V V V ta27 V <| qE V V zS V <| qC V V V V V <| qP V V V V <| qP V V V V <| qM V V V ?_
    refine zB0 (fun h78 => ?_) (fun h78 => ?_)
    ·
     refine qM V V V <| qM V V V <| qF V V V zO1 <| qL V V V V ta28 V <| qE V V zT V ?_
     try rw [zZ]
     refine qC V V V V V <| qP V V V V <| qP V V V V <| qA V V V <| qN <| zG ?_
     exact zK (.inr V) zW0 V (.of_eq (by congr 1; rw [zC]; simp_all [bareF, numsK, textsK, clocksK, valuesK, Val.nv, Val.mv, Val.sv, Val.cv, Val.vv])) (.bool _) Vv
    ·
     refine qT V V V V <| qS V <| qS V <| qS V <| qP V V V V <| qA V V V <| qN <| zG ?_
     exact zK (.inr V) zW0 V (.of_eq (by congr 1; rw [zC]; simp_all [bareF, numsK, textsK, clocksK, valuesK, Val.nv, Val.mv, Val.sv, Val.cv, Val.vv])) (.bool _) Vv
   ·
    refine qT V V V V <| qS V <| qS V <| qS V <| qP V V V V <| qM V V V <| qT V V V V <| qS V <| qS V <| qS V <| qP V V V V <| qA V V V <| qN <| zG ?_
    exact zK (.inr V) zW0 V (.of_eq (by congr 1; rw [zC]; simp_all [bareF, numsK, textsK, clocksK, valuesK, Val.nv, Val.mv, Val.sv, Val.cv, Val.vv])) (.bool _) Vv
  ·
   refine qT V V V V <| qS V <| qS V <| qS V <| qP V V V V <| qM V V V <| qT V V V V <| qS V <| qS V <| qS V <| qP V V V V <| qM V V V <| qT V V V V <| qS V <| qS V <| qS V <| qP V V V V ?_
   refine qA V V V <| qN <| zG ?_
   exact zK (.inr V) zW0 V (.of_eq (by congr 1; rw [zC]; simp_all [bareF, numsK, textsK, clocksK, valuesK, Val.nv, Val.mv, Val.sv, Val.cv, Val.vv])) (.bool _) Vv
 ·
  refine zN zJ4 V zS4 (zB V) ?_
  refine zA <| qR V <| qB V V V V V <| qA V V V <| qN <| zA <| qR V <| qM V V V <| qC V V V V V <| qM V V V <| qM V V V <| qC V V V V V <| qP V V V V <| qM V V V <| qS V <| qS V <| qP V V V V <| qA V V V <| qN ?_
  refine zA <| qR V <| qM V V V <| qC V V V V V <| qM V V V <| qM V V V <| qC V V V V V <| qP V V V V <| qM V V V <| qM V V V <| qC V V V V V <| qP V V V V <| qA V V V <| qN <| zA <| qR V <| qM V V V <| qC V V V V V ?_
  refine qM V V V <| qM V V V <| qC V V V V V <| qP V V V V <| qA V V V <| qN <| zA <| qR V <| qM V V V <| qC V V V V V <| qM V V V <| qM V V V <| qC V V V V V <| qP V V V V <| qM V V V <| qM V V V <| qC V V V V V ?_
  refine qP V V V V <| qA V V V <| qN <| zA <| qR V <| qM V V V <| qM V V V <| qS V <| qS V <| qS V <| qP V V V V <| qM V V V <| qM V V V <| qC V V V V V <| qM V V V <| qF V V V zX4 <| qL V V V V ta25 V <| qC V V V V V ?_
  refine qP V V V V <| qP V V V V <| qM V V V ?_
  refine zB0 (fun h60 => ?_) (fun h60 => ?_)
  ·
   refine qM V V V <| qM V V V <| qF V V V zT1 <| qL V V V V ta26 V <| qE V V zA0 V <| qC V V V V V <| qP V V V V <| qP V V V V <| qM V V V ?_
   refine zB0 (fun h69 => ?_) (fun h69 => ?_)
   ·
    refine qM V V V <| qM V V V <| qF V V V zS1 <| qL V V V V ta27 V <| qE V V zS V <| qC V V V V V <| qP V V V V <| qP V V V V <| qM V V V ?_
    refine zB0 (fun h78 => ?_) (fun h78 => ?_)
    ·
     refine qM V V V <| qM V V V <| qF V V V zO1 <| qL V V V V ta28 V <| qE V V zT V ?_
     try rw [zZ]
     refine qC V V V V V <| qP V V V V <| qP V V V V <| qA V V V <| qN <| zG ?_
     exact zK (.inr V) zW0 V (.of_eq (by congr 1; rw [zC]; simp_all [bareF, numsK, textsK, clocksK, valuesK, Val.nv, Val.mv, Val.sv, Val.cv, Val.vv])) (.bool _) Vv
    ·
     refine qT V V V V <| qS V <| qS V <| qS V <| qP V V V V <| qA V V V <| qN <| zG ?_
     exact zK (.inr V) zW0 V (.of_eq (by congr 1; rw [zC]; simp_all [bareF, numsK, textsK, clocksK, valuesK, Val.nv, Val.mv, Val.sv, Val.cv, Val.vv])) (.bool _) Vv
   ·
    refine qT V V V V <| qS V <| qS V <| qS V <| qP V V V V <| qM V V V <| qT V V V V <| qS V <| qS V <| qS V <| qP V V V V <| qA V V V <| qN <| zG ?_
    exact zK (.inr V) zW0 V (.of_eq (by congr 1; rw [zC]; simp_all [bareF, numsK, textsK, clocksK, valuesK, Val.nv, Val.mv, Val.sv, Val.cv, Val.vv])) (.bool _) Vv
  ·
   refine qT V V V V <| qS V <| qS V <| qS V <| qP V V V V <| qM V V V <| qT V V V V <| qS V <| qS V <| qS V <| qP V V V V <| qM V V V <| qT V V V V <| qS V <| qS V <| qS V <| qP V V V V ?_
   refine qA V V V <| qN <| zG ?_
   exact zK (.inr V) zW0 V (.of_eq (by congr 1; rw [zC]; simp_all [bareF, numsK, textsK, clocksK, valuesK, Val.nv, Val.mv, Val.sv, Val.cv, Val.vv])) (.bool _) Vv
 ·
  refine zN zJ4 V zS4 (zB V) ?_
  refine zA <| qR V <| qB V V V V V <| qA V V V <| qN <| zA <| qR V <| qM V V V <| qC V V V V V <| qM V V V <| qM V V V <| qC V V V V V <| qP V V V V <| qM V V V <| qM V V V <| qC V V V V V <| qP V V V V <| qA V V V ?_
  refine qN <| zA <| qR V <| qM V V V <| qC V V V V V <| qM V V V <| qS V <| qS V <| qP V V V V <| qM V V V <| qS V <| qS V <| qP V V V V <| qA V V V <| qN <| zA <| qR V <| qM V V V <| qC V V V V V <| qM V V V ?_
  refine qM V V V <| qC V V V V V <| qP V V V V <| qA V V V <| qN <| zA <| qR V <| qM V V V <| qC V V V V V <| qM V V V <| qM V V V <| qC V V V V V <| qP V V V V <| qM V V V <| qM V V V <| qC V V V V V <| qP V V V V ?_
  refine qA V V V <| qN <| zA <| qR V <| qM V V V <| qM V V V <| qF V V V zB4 <| qL V V V V ta25 V <| qC V V V V V <| qP V V V V <| qM V V V ?_
  refine zB0 (fun h51 => ?_) (fun h51 => ?_)
  ·
   refine qM V V V <| qC V V V V V <| qM V V V <| qF V V V zX4 <| qL V V V V ta25 V <| qC V V V V V <| qP V V V V <| qP V V V V <| qM V V V ?_
   refine zB0 (fun h60 => ?_) (fun h60 => ?_)
   ·
    refine qM V V V <| qM V V V <| qT V V V V <| qP V V V V <| qP V V V V <| qM V V V <| qM V V V <| qM V V V <| qF V V V zS1 <| qL V V V V ta27 V <| qE V V zS V <| qC V V V V V <| qP V V V V <| qP V V V V ?_
    refine qM V V V ?_
    refine zB0 (fun h78 => ?_) (fun h78 => ?_)
    ·
     refine qM V V V <| qM V V V <| qF V V V zO1 <| qL V V V V ta28 V <| qE V V zT V ?_
     try rw [zZ]
     refine qC V V V V V <| qP V V V V <| qP V V V V <| qA V V V <| qN <| zG ?_
     exact zK (.inr V) zW0 V (.of_eq (by congr 1; rw [zC]; simp_all [bareF, numsK, textsK, clocksK, valuesK, Val.nv, Val.mv, Val.sv, Val.cv, Val.vv])) (.bool _) Vv
    ·
     refine qT V V V V <| qS V <| qS V <| qS V <| qP V V V V <| qA V V V <| qN <| zG ?_
     exact zK (.inr V) zW0 V (.of_eq (by congr 1; rw [zC]; simp_all [bareF, numsK, textsK, clocksK, valuesK, Val.nv, Val.mv, Val.sv, Val.cv, Val.vv])) (.bool _) Vv
   ·
    refine qT V V V V <| qS V <| qS V <| qS V <| qP V V V V <| qM V V V <| qT V V V V <| qS V <| qS V <| qS V <| qP V V V V <| qM V V V <| qT V V V V <| qS V <| qS V <| qS V <| qP V V V V ?_
    refine qA V V V <| qN <| zG ?_
    exact zK (.inr V) zW0 V (.of_eq (by congr 1; rw [zC]; simp_all [bareF, numsK, textsK, clocksK, valuesK, Val.nv, Val.mv, Val.sv, Val.cv, Val.vv])) (.bool _) Vv
  ·
   refine qT V V V V <| qS V <| qS V <| qS V <| qP V V V V <| qM V V V <| qT V V V V <| qS V <| qS V <| qS V <| qP V V V V <| qM V V V <| qT V V V V <| qS V <| qS V <| qS V <| qP V V V V ?_
   refine qM V V V <| qT V V V V <| qS V <| qS V <| qS V <| qP V V V V <| qA V V V <| qN <| zG ?_
   exact zK (.inr V) zW0 V (.of_eq (by congr 1; rw [zC]; simp_all [bareF, numsK, textsK, clocksK, valuesK, Val.nv, Val.mv, Val.sv, Val.cv, Val.vv])) (.bool _) Vv
 ·
  refine zN zJ4 V zS4 (zB V) ?_
  refine zA <| qR V <| qB V V V V V <| qA V V V <| qN <| zA <| qR V <| qM V V V <| qC V V V V V <| qM V V V <| qM V V V <| qC V V V V V <| qP V V V V <| qM V V V <| qM V V V <| qC V V V V V <| qP V V V V <| qA V V V ?_
  refine qN <| zA <| qR V <| qM V V V <| qC V V V V V <| qM V V V <| qM V V V <| qC V V V V V <| qP V V V V <| qM V V V <| qS V <| qS V <| qP V V V V <| qA V V V <| qN <| zA <| qR V <| qM V V V <| qC V V V V V ?_
  refine qM V V V <| qM V V V <| qC V V V V V <| qP V V V V <| qA V V V <| qN <| zA <| qR V <| qM V V V <| qC V V V V V <| qM V V V <| qS V <| qS V <| qP V V V V <| qM V V V <| qS V <| qS V <| qP V V V V <| qA V V V ?_
  refine qN <| zA <| qR V <| qM V V V <| qM V V V <| qF V V V zB4 <| qL V V V V ta25 V <| qC V V V V V <| qP V V V V <| qM V V V ?_
  refine zB0 (fun h51 => ?_) (fun h51 => ?_)
  ·
   refine qM V V V <| qC V V V V V <| qM V V V <| qF V V V zX4 <| qL V V V V ta25 V <| qC V V V V V <| qP V V V V <| qP V V V V <| qM V V V ?_
   refine zB0 (fun h60 => ?_) (fun h60 => ?_)
   ·
    refine qM V V V <| qM V V V <| qT V V V V <| qP V V V V <| qP V V V V <| qM V V V <| qM V V V <| qM V V V <| qF V V V zS1 <| qL V V V V ta27 V <| qE V V zS V <| qC V V V V V <| qP V V V V <| qP V V V V ?_
    refine qM V V V ?_
    refine zB0 (fun h78 => ?_) (fun h78 => ?_)
    ·
     refine qM V V V <| qM V V V <| qT V V V V <| qP V V V V <| qP V V V V <| qA V V V <| qN <| zG ?_
     exact zK (.inr V) zW0 V (.of_eq (by congr 1; rw [zC]; simp_all [bareF, numsK, textsK, clocksK, valuesK, Val.nv, Val.mv, Val.sv, Val.cv, Val.vv])) (.bool _) Vv
    ·
     refine qT V V V V <| qS V <| qS V <| qS V <| qP V V V V <| qA V V V <| qN <| zG ?_
     exact zK (.inr V) zW0 V (.of_eq (by congr 1; rw [zC]; simp_all [bareF, numsK, textsK, clocksK, valuesK, Val.nv, Val.mv, Val.sv, Val.cv, Val.vv])) (.bool _) Vv
   ·
    refine qT V V V V <| qS V <| qS V <| qS V <| qP V V V V <| qM V V V <| qT V V V V <| qS V <| qS V <| qS V <| qP V V V V <| qM V V V <| qT V V V V <| qS V <| qS V <| qS V <| qP V V V V ?_
    refine qA V V V <| qN <| zG ?_
    exact zK (.inr V) zW0 V (.of_eq (by congr 1; rw [zC]; simp_all [bareF, numsK, textsK, clocksK, valuesK, Val.nv, Val.mv, Val.sv, Val.cv, Val.vv])) (.bool _) Vv
  ·
   refine qT V V V V <| qS V <| qS V <| qS V <| qP V V V V <| qM V V V <| qT V V V V <| qS V <| qS V <| qS V <| qP V V V V <| qM V V V <| qT V V V V <| qS V <| qS V <| qS V <| qP V V V V ?_
   refine qM V V V <| qT V V V V <| qS V <| qS V <| qS V <| qP V V V V <| qA V V V <| qN <| zG ?_
   exact zK (.inr V) zW0 V (.of_eq (by congr 1; rw [zC]; simp_all [bareF, numsK, textsK, clocksK, valuesK, Val.nv, Val.mv, Val.sv, Val.cv, Val.vv])) (.bool _) Vv
 ·
  refine zN zJ4 V zS4 (zB V) ?_
  refine zA <| qR V <| qB V V V V V <| qA V V V <| qN <| zA <| qR V <| qM V V V <| qC V V V V V <| qM V V V <| qM V V V <| qC V V V V V <| qP V V V V <| qM V V V <| qM V V V <| qC V V V V V <| qP V V V V <| qA V V V ?_
  refine qN <| zA <| qR V <| qM V V V <| qC V V V V V <| qM V V V <| qM V V V <| qC V V V V V <| qP V V V V <| qM V V V <| qM V V V <| qC V V V V V <| qP V V V V <| qA V V V <| qN <| zA <| qR V <| qM V V V ?_
  refine qC V V V V V <| qM V V V <| qM V V V <| qC V V V V V <| qP V V V V <| qA V V V <| qN <| zA <| qR V <| qM V V V <| qC V V V V V <| qM V V V <| qM V V V <| qC V V V V V <| qP V V V V <| qM V V V <| qS V ?_
  refine qS V <| qP V V V V <| qA V V V <| qN <| zA <| qR V <| qM V V V <| qM V V V <| qF V V V zB4 <| qL V V V V ta25 V <| qC V V V V V <| qP V V V V <| qM V V V ?_
  refine zB0 (fun h51 => ?_) (fun h51 => ?_)
  ·
   refine qM V V V <| qC V V V V V <| qM V V V <| qF V V V zX4 <| qL V V V V ta25 V <| qC V V V V V <| qP V V V V <| qP V V V V <| qM V V V ?_
   refine zB0 (fun h60 => ?_) (fun h60 => ?_)
   ·
    refine qM V V V <| qM V V V <| qF V V V zT1 <| qL V V V V ta26 V <| qE V V zA0 V <| qC V V V V V <| qP V V V V <| qP V V V V <| qM V V V ?_
    refine zB0 (fun h69 => ?_) (fun h69 => ?_)
    ·
     refine qM V V V <| qM V V V <| qF V V V zS1 <| qL V V V V ta27 V <| qE V V zS V <| qC V V V V V <| qP V V V V <| qP V V V V <| qM V V V ?_
     refine zB0 (fun h78 => ?_) (fun h78 => ?_)
     ·
      refine qM V V V <| qM V V V <| qT V V V V <| qP V V V V <| qP V V V V <| qA V V V <| qN <| zG ?_
      exact zK (.inr V) zW0 V (.of_eq (by congr 1; rw [zC]; simp_all [bareF, numsK, textsK, clocksK, valuesK, Val.nv, Val.mv, Val.sv, Val.cv, Val.vv])) (.bool _) Vv
     ·
      refine qT V V V V <| qS V <| qS V <| qS V <| qP V V V V <| qA V V V <| qN <| zG ?_
      exact zK (.inr V) zW0 V (.of_eq (by congr 1; rw [zC]; simp_all [bareF, numsK, textsK, clocksK, valuesK, Val.nv, Val.mv, Val.sv, Val.cv, Val.vv])) (.bool _) Vv
    ·
     refine qT V V V V <| qS V <| qS V <| qS V <| qP V V V V <| qM V V V <| qT V V V V <| qS V <| qS V <| qS V <| qP V V V V <| qA V V V <| qN <| zG ?_
     exact zK (.inr V) zW0 V (.of_eq (by congr 1; rw [zC]; simp_all [bareF, numsK, textsK, clocksK, valuesK, Val.nv, Val.mv, Val.sv, Val.cv, Val.vv])) (.bool _) Vv
   ·
    refine qT V V V V <| qS V <| qS V <| qS V <| qP V V V V <| qM V V V <| qT V V V V <| qS V <| qS V <| qS V <| qP V V V V <| qM V V V <| qT V V V V <| qS V <| qS V <| qS V <| qP V V V V ?_
    refine qA V V V <| qN <| zG ?_
    exact zK (.inr V) zW0 V (.of_eq (by congr 1; rw [zC]; simp_all [bareF, numsK, textsK, clocksK, valuesK, Val.nv, Val.mv, Val.sv, Val.cv, Val.vv])) (.bool _) Vv
  ·
   refine qT V V V V <| qS V <| qS V <| qS V <| qP V V V V <| qM V V V <| qT V V V V <| qS V <| qS V <| qS V <| qP V V V V <| qM V V V <| qT V V V V <| qS V <| qS V <| qS V <| qP V V V V ?_
   refine qM V V V <| qT V V V V <| qS V <| qS V <| qS V <| qP V V V V <| qA V V V <| qN <| zG ?_
   exact zK (.inr V) zW0 V (.of_eq (by congr 1; rw [zC]; simp_all [bareF, numsK, textsK, clocksK, valuesK, Val.nv, Val.mv, Val.sv, Val.cv, Val.vv])) (.bool _) Vv
 ·
  refine zN zJ4 V zS4 (zB V) ?_
  refine zA <| qR V <| qB V V V V V <| qA V V V <| qN <| zA <| qR V <| qM V V V <| qC V V V V V <| qM V V V <| qM V V V <| qC V V V V V <| qP V V V V <| qM V V V <| qM V V V <| qC V V V V V <| qP V V V V <| qA V V V ?_
  refine qN <| zA <| qR V <| qM V V V <| qC V V V V V <| qM V V V <| qM V V V <| qC V V V V V <| qP V V V V <| qM V V V <| qM V V V <| qC V V V V V <| qP V V V V <| qA V V V <| qN <| zA <| qR V <| qM V V V ?_
  refine qC V V V V V <| qM V V V <| qM V V V <| qC V V V V V <| qP V V V V <| qA V V V <| qN <| zA <| qR V <| qM V V V <| qC V V V V V <| qM V V V <| qM V V V <| qC V V V V V <| qP V V V V <| qM V V V <| qM V V V ?_
  refine qC V V V V V <| qP V V V V <| qA V V V <| qN <| zA <| qR V <| qM V V V <| qM V V V <| qS V <| qS V <| qS V <| qP V V V V <| qM V V V <| qM V V V <| qC V V V V V <| qM V V V <| qS V <| qS V <| qS V <| qP V V V V ?_
  refine qP V V V V <| qM V V V <| qM V V V <| qM V V V <| qT V V V V <| qP V V V V <| qP V V V V <| qM V V V <| qM V V V <| qM V V V <| qF V V V zS1 <| qL V V V V ta27 V <| qE V V zS V <| qC V V V V V ?_
  refine qP V V V V <| qP V V V V <| qM V V V ?_
  refine zB0 (fun h78 => ?_) (fun h78 => ?_)
  ·
   refine qM V V V <| qM V V V <| qF V V V zO1 <| qL V V V V ta28 V <| qE V V zT V ?_
   try rw [zZ]
   refine qC V V V V V <| qP V V V V <| qP V V V V <| qA V V V <| qN <| zG ?_
   exact zK (.inr V) zW0 V (.of_eq (by congr 1; rw [zC]; simp_all [bareF, numsK, textsK, clocksK, valuesK, Val.nv, Val.mv, Val.sv, Val.cv, Val.vv])) (.bool _) Vv
  ·
   refine qT V V V V <| qS V <| qS V <| qS V <| qP V V V V <| qA V V V <| qN <| zG ?_
   exact zK (.inr V) zW0 V (.of_eq (by congr 1; rw [zC]; simp_all [bareF, numsK, textsK, clocksK, valuesK, Val.nv, Val.mv, Val.sv, Val.cv, Val.vv])) (.bool _) Vv
 ·
  refine zN zJ4 V zS4 (zB V) ?_
  refine zA <| qR V <| qB V V V V V <| qA V V V <| qN <| zA <| qR V <| qM V V V <| qC V V V V V <| qM V V V <| qM V V V <| qC V V V V V <| qP V V V V <| qM V V V <| qM V V V <| qC V V V V V <| qP V V V V <| qA V V V ?_
  refine qN <| zA <| qR V <| qM V V V <| qC V V V V V <| qM V V V <| qM V V V <| qC V V V V V <| qP V V V V <| qM V V V <| qM V V V <| qC V V V V V <| qP V V V V <| qA V V V <| qN <| zA <| qR V <| qM V V V ?_
  refine qC V V V V V <| qM V V V <| qS V <| qS V <| qP V V V V <| qA V V V <| qN <| zA <| qR V <| qM V V V <| qC V V V V V <| qM V V V <| qM V V V <| qC V V V V V <| qP V V V V <| qM V V V <| qM V V V <| qC V V V V V ?_
  refine qP V V V V <| qA V V V <| qN <| zA <| qR V <| qM V V V <| qM V V V <| qF V V V zB4 <| qL V V V V ta25 V <| qC V V V V V <| qP V V V V <| qM V V V ?_
  refine zB0 (fun h51 => ?_) (fun h51 => ?_)
  ·
   refine qM V V V <| qC V V V V V <| qM V V V <| qF V V V zX4 <| qL V V V V ta25 V <| qC V V V V V <| qP V V V V <| qP V V V V <| qM V V V ?_
   refine zB0 (fun h60 => ?_) (fun h60 => ?_)
   ·
    refine qM V V V <| qM V V V <| qF V V V zT1 <| qL V V V V ta26 V <| qE V V zA0 V <| qC V V V V V <| qP V V V V <| qP V V V V <| qM V V V ?_
    refine zB0 (fun h69 => ?_) (fun h69 => ?_)
    ·
     refine qM V V V <| qM V V V <| qT V V V V <| qP V V V V <| qP V V V V <| qM V V V <| qM V V V <| qM V V V <| qF V V V zO1 <| qL V V V V ta28 V <| qE V V zT V ?_
     try rw [zZ]
     refine qC V V V V V <| qP V V V V <| qP V V V V <| qA V V V <| qN <| zG ?_
     exact zK (.inr V) zW0 V (.of_eq (by congr 1; rw [zC]; simp_all [bareF, numsK, textsK, clocksK, valuesK, Val.nv, Val.mv, Val.sv, Val.cv, Val.vv])) (.bool _) Vv
    ·
     refine qT V V V V <| qS V <| qS V <| qS V <| qP V V V V <| qM V V V <| qT V V V V <| qS V <| qS V <| qS V <| qP V V V V <| qA V V V <| qN <| zG ?_
     exact zK (.inr V) zW0 V (.of_eq (by congr 1; rw [zC]; simp_all [bareF, numsK, textsK, clocksK, valuesK, Val.nv, Val.mv, Val.sv, Val.cv, Val.vv])) (.bool _) Vv
   ·
    refine qT V V V V <| qS V <| qS V <| qS V <| qP V V V V <| qM V V V <| qT V V V V <| qS V <| qS V <| qS V <| qP V V V V <| qM V V V <| qT V V V V <| qS V <| qS V <| qS V <| qP V V V V ?_
    refine qA V V V <| qN <| zG ?_
    exact zK (.inr V) zW0 V (.of_eq (by congr 1; rw [zC]; simp_all [bareF, numsK, textsK, clocksK, valuesK, Val.nv, Val.mv, Val.sv, Val.cv, Val.vv])) (.bool _) Vv
  ·
   refine qT V V V V <| qS V <| qS V <| qS V <| qP V V V V <| qM V V V <| qT V V V V <| qS V <| qS V <| qS V <| qP V V V V <| qM V V V <| qT V V V V <| qS V <| qS V <| qS V <| qP V V V V ?_
   refine qM V V V <| qT V V V V <| qS V <| qS V <| qS V <| qP V V V V <| qA V V V <| qN <| zG ?_
   exact zK (.inr V) zW0 V (.of_eq (by congr 1; rw [zC]; simp_all [bareF, numsK, textsK, clocksK, valuesK, Val.nv, Val.mv, Val.sv, Val.cv, Val.vv])) (.bool _) Vv
 ·
  refine zN zJ4 V zS4 (zB V) ?_
  refine zA <| qR V <| qB V V V V V <| qA V V V <| qN <| zA <| qR V <| qM V V V <| qC V V V V V <| qM V V V <| qM V V V <| qC V V V V V <| qP V V V V <| qM V V V <| qM V V V <| qC V V V V V <| qP V V V V <| qA V V V ?_
  refine qN <| zA <| qR V <| qM V V V <| qC V V V V V <| qM V V V <| qM V V V <| qC V V V V V <| qP V V V V <| qM V V V <| qM V V V <| qC V V V V V <| qP V V V V <| qA V V V <| qN <| zA <| qR V <| qM V V V ?_
  refine qC V V V V V <| qM V V V <| qM V V V <| qC V V V V V <| qP V V V V <| qA V V V <| qN <| zA <| qR V <| qM V V V <| qC V V V V V <| qM V V V <| qM V V V <| qC V V V V V <| qP V V V V <| qM V V V <| qM V V V ?_
  refine qC V V V V V <| qP V V V V <| qA V V V <| qN <| zA <| qR V <| qM V V V <| qM V V V <| qF V V V zB4 <| qL V V V V ta25 V <| qC V V V V V <| qP V V V V <| qM V V V ?_
  refine zB0 (fun h51 => ?_) (fun h51 => ?_)
  ·
   refine qM V V V <| qC V V V V V <| qM V V V <| qF V V V zX4 <| qL V V V V ta25 V <| qC V V V V V <| qP V V V V <| qP V V V V <| qM V V V ?_
   refine zB0 (fun h60 => ?_) (fun h60 => ?_)
   ·
    refine qM V V V <| qM V V V <| qF V V V zT1 <| qL V V V V ta26 V <| qE V V zA0 V <| qC V V V V V <| qP V V V V <| qP V V V V <| qM V V V ?_
    refine zB0 (fun h69 => ?_) (fun h69 => ?_)
    ·
     refine qM V V V <| qM V V V <| qT V V V V <| qP V V V V <| qP V V V V <| qM V V V <| qM V V V <| qM V V V <| qT V V V V <| qP V V V V <| qP V V V V <| qA V V V <| qN <| zG ?_
     exact zK (.inr V) zW0 V (.of_eq (by congr 1; rw [zC]; simp_all [bareF, numsK, textsK, clocksK, valuesK, Val.nv, Val.mv, Val.sv, Val.cv, Val.vv])) (.bool _) Vv
    ·
     refine qT V V V V <| qS V <| qS V <| qS V <| qP V V V V <| qM V V V <| qT V V V V <| qS V <| qS V <| qS V <| qP V V V V <| qA V V V <| qN <| zG ?_
     exact zK (.inr V) zW0 V (.of_eq (by congr 1; rw [zC]; simp_all [bareF, numsK, textsK, clocksK, valuesK, Val.nv, Val.mv, Val.sv, Val.cv, Val.vv])) (.bool _) Vv
   ·
    refine qT V V V V <| qS V <| qS V <| qS V <| qP V V V V <| qM V V V <| qT V V V V <| qS V <| qS V <| qS V <| qP V V V V <| qM V V V <| qT V V V V <| qS V <| qS V <| qS V <| qP V V V V ?_
    refine qA V V V <| qN <| zG ?_
    exact zK (.inr V) zW0 V (.of_eq (by congr 1; rw [zC]; simp_all [bareF, numsK, textsK, clocksK, valuesK, Val.nv, Val.mv, Val.sv, Val.cv, Val.vv])) (.bool _) Vv
  ·
   refine qT V V V V <| qS V <| qS V <| qS V <| qP V V V V <| qM V V V <| qT V V V V <| qS V <| qS V <| qS V <| qP V V V V <| qM V V V <| qT V V V V <| qS V <| qS V <| qS V <| qP V V V V ?_
   refine qM V V V <| qT V V V V <| qS V <| qS V <| qS V <| qP V V V V <| qA V V V <| qN <| zG ?_
   exact zK (.inr V) zW0 V (.of_eq (by congr 1; rw [zC]; simp_all [bareF, numsK, textsK, clocksK, valuesK, Val.nv, Val.mv, Val.sv, Val.cv, Val.vv])) (.bool _) Vv
theorem _root_.zJ5 : type_of% @bare_spec := @bare_spec
theorem is1v_spec (k k1 : Int) (i1 rest : List Sch) (f : Val → Bool) (ih : ∀ x, okV x → ∀ S : MS, MCalls Tryz.prog 36 [encS (.mk k1 i1), encV x] S fun v σ' => v = .bool (f x) ∧ σ' = S) (x : Val) (hx : okV x) (id : Nat) (S : MS) (hS : S[id]? = some (.cells [.int .i64 k, .lst none 2 (encSs (.mk k1 i1 :: rest))])) : MCalls Tryz.prog 57 [encV x, .ref id 0] S fun v σ' => v = .bool (f x) ∧ σ' = S := by
 obtain ⟨n, m, s, c, w⟩ := x
 refine zN Tryz.func57 V Tryz.ntmps57 (zB V) ?_
 refine zA <| qR V <| qB V V V V V <| qA V V V <| qN <| zA ?_
 refine zV0 [] [_] mo (by decide) V V V V ?_
 refine dO V V V (zL V V zC2 Vv) <| dO V V V (zQ1 V V hS ta22 V Vv) <| dO V V V (zO V zD0 sz24 (by decide) V V V (show _ = some (encS (.mk k1 i1)) from V) Vv) ?_
 refine dO V V V (zP V V ta24 V Vv) <| dO V V V (zL0 V V V ta30 V Vv) <| zV V V (.cons (zX0 V V V co36 (ih (.mk n m s c w) hx _)) .nil) <| dO V V V (zC1 V V Vv) <| zO0 <| zG ?_
 exact zK (.inr V) Tryz.results57 V (.of_eq (V)) (.bool _) Vv
theorem is2v_spec (k k1 : Int) (i1 rest : List Sch) (f : Val → Bool) (ih : ∀ x, okV x → ∀ S : MS, MCalls Tryz.prog 36 [encS (.mk k1 i1), encV x] S fun v σ' => v = .bool (f x) ∧ σ' = S) (x : Val) (hx : okV x) (ida ids : Nat) (S : MS) (hA : S[ida]? = some (.cells [.fn (.func 57) [] [.ref ids 0]])) (hS : S[ids]? = some (.cells [.int .i64 k, .lst none 2 (encSs (.mk k1 i1 :: rest))])) : MCalls Tryz.prog 60 [encV x, .ref ida 0, .ref ids 0] S fun v σ' => v = .bool (!f x || noneF (.mk k1 i1) x) ∧ σ' = S := by
 obtain ⟨n, m, s, c, w⟩ := x
 refine zN Tryz.func60 V Tryz.ntmps60 (zB V) ?_
 refine zA <| qR V <| qB V V V V V <| qA V V V <| qN <| zA ?_
 refine zV0 [] [_] mo (by decide) V V V V ?_
 refine zV V V (.cons (zQ1 V V hA ta103 V Vv) .nil) ?_
 refine dO V V V (zL0 V V V ta30 V Vv) <| zV V V (.cons (zX0 V V V co57 (is1v_spec k k1 i1 rest f ih (.mk n m s c w) hx ids _ (get_app hS))) .nil) <| dO V V V (zL1 V V Vv) <| dO V V V (zY V V Vv) ?_
 refine zS2 (fun h9 => ?_) (fun h9 => ?_)
 ·
  refine dS V V <| dS V V <| dS V V <| dS V V <| dS V V <| dS V V <| dO V V V (zP1 V V V Vv) <| dO V V V (zC1 V V Vv) <| zO0 <| zG ?_
  exact zK (.inr V) Tryz.results60 V (.of_eq (by simp_all)) (.bool _) Vv
 ·
  refine dO V V V (zL V V zC2 Vv) <| dO V V V (zQ1 V V hS ta22 V Vv) <| dO V V V (zO V zD0 sz24 (by decide) V V V (show _ = some (encS (.mk k1 i1)) from V) Vv) ?_
  refine dO V V V (zP V V ta24 V Vv) <| dO V V V (zL0 V V V ta30 V Vv) <| zV V V (.cons (zX0 V V V co61 (None_spec (.mk k1 i1) (.mk n m s c w) _)) .nil) <| dO V V V (zP1 V V V Vv) <| dO V V V (zC1 V V Vv) <| zO0 <| zG ?_
  exact zK (.inr V) Tryz.results60 V (.of_eq (by simp_all)) (.bool _) Vv
theorem is3v_spec (k k1 : Int) (i1 rest : List Sch) (f : Val → Bool) (ih : ∀ x, okV x → ∀ S : MS, MCalls Tryz.prog 36 [encS (.mk k1 i1), encV x] S fun v σ' => v = .bool (f x) ∧ σ' = S) (x : Val) (hx : okV x) (ida ids : Nat) (S : MS) (hA : S[ida]? = some (.cells [.fn (.func 57) [] [.ref ids 0]])) (hS : S[ids]? = some (.cells [.int .i64 k, .lst none 2 (encSs (.mk k1 i1 :: rest))])) : MCalls Tryz.prog 65 [encV x, .ref ida 0] S fun v σ' => v = .bool (!f x) ∧ σ' = S := by
 obtain ⟨n, m, s, c, w⟩ := x
 refine zN Tryz.func65 V Tryz.ntmps65 (zB V) ?_
 refine zA <| qR V <| qB V V V V V <| qA V V V <| qN <| zA <| qR V <| qO V <| zQ1 V V hA ta103 V <| qL V V V V ta30 V ?_
 refine qX V V V V co57 (is1v_spec k k1 i1 rest f ih (.mk n m s c w) hx ids _ (get_app hS)) ?_
 refine qO V <| zL1 V V <| qA V V V <| qN <| zG ?_
 exact zK (.inr V) Tryz.results65 V (.of_eq (V)) (.bool _) Vv
theorem _root_.zT4 : type_of% @Tryz.ntmps36 := @Tryz.ntmps36
theorem _root_.zK0 : type_of% @Tryz.results36 := @Tryz.results36
theorem isV_spec (d : Nat) : ∀ (s : Sch), isF d s = true → ∀ x : Val, okV x → ∀ S : MS, MCalls Tryz.prog 36 [encS s, encV x] S fun v σ' => v = .bool (isVF s x) ∧ σ' = S := by
 induction d with
 | zero => intro s h; simp [isF] at h
 | succ d ih =>
 rintro ⟨k, ins⟩ hd ⟨n, m, s, c, w⟩ hv S
 rw [isF] at hd
 simp only [Bool.and_eq_true, List.all_eq_true, beq_iff_eq] at hd
 simp only [okV] at hv
 have hvs := okVs_iff.1 hv.2.2.2
 rcases k8_of hd.1 with rfl | rfl | rfl | rfl | rfl | rfl | rfl | rfl
 ·
  refine zN zI4 V zT4 (zB V) ?_
  refine zA <| qR V <| qB V V V V V <| qB V V V V V <| qA V V V <| qN <| zA <| zA <| qR V <| qF V V V zM1 <| qL V V V V ta3 V <| qL V V V V ta30 V ?_
  refine qX V V V V co56 (zJ5 1 (by omega) n m s c w _) ?_
  refine qO V <| zL1 V V <| qM V V V ?_
  refine zB0 (fun h11 => ?_) (fun h11 => ?_)
  ·
   refine qT V V V V <| qP V V V V <| qM V V V <| qT V V V V <| qP V V V V <| qN <| zX V (V) <| zA <| qR V <| qA V V V <| qN <| zG ?_
   exact zK (.inr V) zK0 V (.of_eq (by rw [zW1 1]; congr 1; symm; first | (rw [show bareF 1 _ = false by simpa using h11]; rfl) | (rw [w40f]; simp; done) | (rw [c40f]; simp; done))) (.bool _) Vv
  ·
   refine qF V V V zO1 <| qL V V V V ta28 V <| qE V V zT V <| qC V V V V V <| qP V V V V <| qM V V V ?_
   refine zB0 (fun h17 => ?_) (fun h17 => ?_)
   ·
    have w40f := decide_eq_false (by rw [zZ] at h17; simp at h17; omega : ¬ w.length ≤ 40)
    refine qT V V V V <| qP V V V V <| qN <| zX V (V) <| zA <| qR V <| qA V V V <| qN <| zG ?_
    exact zK (.inr V) zK0 V (.of_eq (by rw [zW1 1]; congr 1; symm; first | (rw [show bareF 1 _ = false by simpa using h11]; rfl) | (rw [w40f]; simp; done) | (rw [c40f]; simp; done))) (.bool _) Vv
   ·
    have w40t := decide_eq_true (by rw [zZ] at h17; simp at h17; omega : w.length ≤ 40)
    refine qF V V V zS1 <| qL V V V V ta27 V <| qE V V zS V <| qC V V V V V <| qP V V V V <| qN ?_
    refine zE V (fun h22 => ?_) (fun h22 => ?_)
    ·
     have c40f := decide_eq_false (by rw [zH] at h22; simp at h22; omega : ¬ c.length ≤ 40)
     refine zA <| qR V <| qA V V V <| qN <| zG ?_
     exact zK (.inr V) zK0 V (.of_eq (by rw [zW1 1]; congr 1; symm; first | (rw [show bareF 1 _ = false by simpa using h11]; rfl) | (rw [w40f]; simp; done) | (rw [c40f]; simp; done))) (.bool _) Vv
    ·
     have c40t := decide_eq_true (by rw [zH] at h22; simp at h22; omega : c.length ≤ 40)
     refine zQ <| zA <| qR V <| qO V <| zN1 V V V <| qO V <| zH0 V zm103 V V <| qO V <| zT0 V V V V sz103 V V (zB V) V <| qN <| zA <| zA <| qR V <| qF V V V zM1 <| qL V V V V ta3 V <| qN <| zW <| zA <| qR V <| qC V V V V V <| qA V V V <| qN <| zX V (V) <| zA <| qR V <| qA V V V ?_
     refine qN <| zG ?_
     exact zK (.inr V) zK0 V (.of_eq (by rw [zW1 1]; rw [show bareF 1 _ = true by simpa using h11, w40t, c40t]; simp only [Bool.true_and, isVL, List.headD_cons, List.tail_cons]; rfl)) (.bool _) Vv
 ·
  refine zN zI4 V zT4 (zB V) ?_
  refine zA <| qR V <| qB V V V V V <| qB V V V V V <| qA V V V <| qN <| zA <| zA <| qR V <| qF V V V zM1 <| qL V V V V ta3 V <| qL V V V V ta30 V ?_
  refine qX V V V V co56 (zJ5 2 (by omega) n m s c w _) ?_
  refine qO V <| zL1 V V <| qM V V V ?_
  refine zB0 (fun h11 => ?_) (fun h11 => ?_)
  ·
   refine qT V V V V <| qP V V V V <| qM V V V <| qT V V V V <| qP V V V V <| qN <| zX V (V) <| zA <| qR V <| qA V V V <| qN <| zG ?_
   exact zK (.inr V) zK0 V (.of_eq (by rw [zW1 2]; congr 1; symm; first | (rw [show bareF 2 _ = false by simpa using h11]; rfl) | (rw [w40f]; simp; done) | (rw [c40f]; simp; done))) (.bool _) Vv
  ·
   refine qF V V V zO1 <| qL V V V V ta28 V <| qE V V zT V <| qC V V V V V <| qP V V V V <| qM V V V ?_
   refine zB0 (fun h17 => ?_) (fun h17 => ?_)
   ·
    have w40f := decide_eq_false (by rw [zZ] at h17; simp at h17; omega : ¬ w.length ≤ 40)
    refine qT V V V V <| qP V V V V <| qN <| zX V (V) <| zA <| qR V <| qA V V V <| qN <| zG ?_
    exact zK (.inr V) zK0 V (.of_eq (by rw [zW1 2]; congr 1; symm; first | (rw [show bareF 2 _ = false by simpa using h11]; rfl) | (rw [w40f]; simp; done) | (rw [c40f]; simp; done))) (.bool _) Vv
   ·
    have w40t := decide_eq_true (by rw [zZ] at h17; simp at h17; omega : w.length ≤ 40)
    refine qF V V V zS1 <| qL V V V V ta27 V <| qE V V zS V <| qC V V V V V <| qP V V V V <| qN ?_
    refine zE V (fun h22 => ?_) (fun h22 => ?_)
    ·
     have c40f := decide_eq_false (by rw [zH] at h22; simp at h22; omega : ¬ c.length ≤ 40)
     refine zA <| qR V <| qA V V V <| qN <| zG ?_
     exact zK (.inr V) zK0 V (.of_eq (by rw [zW1 2]; congr 1; symm; first | (rw [show bareF 2 _ = false by simpa using h11]; rfl) | (rw [w40f]; simp; done) | (rw [c40f]; simp; done))) (.bool _) Vv
    ·
     have c40t := decide_eq_true (by rw [zH] at h22; simp at h22; omega : c.length ≤ 40)
     refine zQ <| zA <| qR V <| qO V <| zN1 V V V <| qO V <| zH0 V zm103 V V <| qO V <| zT0 V V V V sz103 V V (zB V) V <| qN <| zA <| zA <| qR V <| qF V V V zM1 <| qL V V V V ta3 V <| qN <| zW <| zA <| qR V <| qC V V V V V <| qA V V V <| qN <| zJ V (V) <| zA <| qR V <| qC V V V V V ?_
     refine qA V V V <| qN <| zX V (V) <| zA <| qR V <| qF V V V zB4 <| qL V V V V ta25 V <| qC V V V V V <| qA V V V <| qN <| zG ?_
     exact zK (.inr V) zK0 V (.of_eq (by rw [zW1 2]; rw [show bareF 2 _ = true by simpa using h11, w40t, c40t]; simp only [Bool.true_and, isVL, List.headD_cons, List.tail_cons]; rfl)) (.bool _) Vv
 ·
  refine zN zI4 V zT4 (zB V) ?_
  refine zA <| qR V <| qB V V V V V <| qB V V V V V <| qA V V V <| qN <| zA <| zA <| qR V <| qF V V V zM1 <| qL V V V V ta3 V <| qL V V V V ta30 V ?_
  refine qX V V V V co56 (zJ5 3 (by omega) n m s c w _) ?_
  refine qO V <| zL1 V V <| qM V V V ?_
  refine zB0 (fun h11 => ?_) (fun h11 => ?_)
  ·
   refine qT V V V V <| qP V V V V <| qM V V V <| qT V V V V <| qP V V V V <| qN <| zX V (V) <| zA <| qR V <| qA V V V <| qN <| zG ?_
   exact zK (.inr V) zK0 V (.of_eq (by rw [zW1 3]; congr 1; symm; first | (rw [show bareF 3 _ = false by simpa using h11]; rfl) | (rw [w40f]; simp; done) | (rw [c40f]; simp; done))) (.bool _) Vv
  ·
   refine qF V V V zO1 <| qL V V V V ta28 V <| qE V V zT V <| qC V V V V V <| qP V V V V <| qM V V V ?_
   refine zB0 (fun h17 => ?_) (fun h17 => ?_)
   ·
    have w40f := decide_eq_false (by rw [zZ] at h17; simp at h17; omega : ¬ w.length ≤ 40)
    refine qT V V V V <| qP V V V V <| qN <| zX V (V) <| zA <| qR V <| qA V V V <| qN <| zG ?_
    exact zK (.inr V) zK0 V (.of_eq (by rw [zW1 3]; congr 1; symm; first | (rw [show bareF 3 _ = false by simpa using h11]; rfl) | (rw [w40f]; simp; done) | (rw [c40f]; simp; done))) (.bool _) Vv
   ·
    have w40t := decide_eq_true (by rw [zZ] at h17; simp at h17; omega : w.length ≤ 40)
    refine qF V V V zS1 <| qL V V V V ta27 V <| qE V V zS V <| qC V V V V V <| qP V V V V <| qN ?_
    refine zE V (fun h22 => ?_) (fun h22 => ?_)
    ·
     have c40f := decide_eq_false (by rw [zH] at h22; simp at h22; omega : ¬ c.length ≤ 40)
     refine zA <| qR V <| qA V V V <| qN <| zG ?_
     exact zK (.inr V) zK0 V (.of_eq (by rw [zW1 3]; congr 1; symm; first | (rw [show bareF 3 _ = false by simpa using h11]; rfl) | (rw [w40f]; simp; done) | (rw [c40f]; simp; done))) (.bool _) Vv
    ·
     have c40t := decide_eq_true (by rw [zH] at h22; simp at h22; omega : c.length ≤ 40)
     refine zQ <| zA <| qR V <| qO V <| zN1 V V V <| qO V <| zH0 V zm103 V V <| qO V <| zT0 V V V V sz103 V V (zB V) V <| qN <| zA <| zA <| qR V <| qF V V V zM1 <| qL V V V V ta3 V <| qN <| zW <| zA <| qR V <| qC V V V V V <| qA V V V <| qN <| zJ V (V) <| zA <| qR V <| qC V V V V V ?_
     refine qA V V V <| qN <| zJ V (V) <| zA <| qR V <| qC V V V V V <| qA V V V <| qN <| zX V (V) <| zA <| qR V <| qF V V V zT1 <| qL V V V V ta26 V ?_
     refine qX V V V V co58 (isRow_spec s _) ?_
     refine qA V V V <| qN <| zG ?_
     exact zK (.inr V) zK0 V (.of_eq (by rw [zW1 3]; rw [show bareF 3 _ = true by simpa using h11, w40t, c40t]; simp only [Bool.true_and, isVL, List.headD_cons, List.tail_cons]; rfl)) (.bool _) Vv
 ·
  obtain ⟨⟨k1, i1⟩, rfl⟩ := one_ins hd.1 (by decide)
  have ih1 := ih (.mk k1 i1) (hd.2 _ (by simp))
  refine zN zI4 V zT4 (zB V) ?_
  refine zA <| qR V <| qB V V V V V <| qB V V V V V <| qA V V V <| qN <| zA <| zA <| qR V <| qF V V V zM1 <| qL V V V V ta3 V <| qL V V V V ta30 V ?_
  refine qX V V V V co56 (zJ5 4 (by omega) n m s c w _) ?_
  refine qO V <| zL1 V V <| qM V V V ?_
  refine zB0 (fun h11 => ?_) (fun h11 => ?_)
  ·
   refine qT V V V V <| qP V V V V <| qM V V V <| qT V V V V <| qP V V V V <| qN <| zX V (V) <| zA <| qR V <| qA V V V <| qN <| zG ?_
   exact zK (.inr V) zK0 V (.of_eq (by rw [zW1 4]; congr 1; symm; first | (rw [show bareF 4 _ = false by simpa using h11]; rfl) | (rw [w40f]; simp; done) | (rw [c40f]; simp; done))) (.bool _) Vv
  ·
   refine qF V V V zO1 <| qL V V V V ta28 V <| qE V V zT V <| qC V V V V V <| qP V V V V <| qM V V V ?_
   refine zB0 (fun h17 => ?_) (fun h17 => ?_)
   ·
    have w40f := decide_eq_false (by rw [zZ] at h17; simp at h17; omega : ¬ w.length ≤ 40)
    refine qT V V V V <| qP V V V V <| qN <| zX V (V) <| zA <| qR V <| qA V V V <| qN <| zG ?_
    exact zK (.inr V) zK0 V (.of_eq (by rw [zW1 4]; congr 1; symm; first | (rw [show bareF 4 _ = false by simpa using h11]; rfl) | (rw [w40f]; simp; done) | (rw [c40f]; simp; done))) (.bool _) Vv
   ·
    have w40t := decide_eq_true (by rw [zZ] at h17; simp at h17; omega : w.length ≤ 40)
    refine qF V V V zS1 <| qL V V V V ta27 V <| qE V V zS V <| qC V V V V V <| qP V V V V <| qN ?_
    refine zE V (fun h22 => ?_) (fun h22 => ?_)
    ·
     have c40f := decide_eq_false (by rw [zH] at h22; simp at h22; omega : ¬ c.length ≤ 40)
     refine zA <| qR V <| qA V V V <| qN <| zG ?_
     exact zK (.inr V) zK0 V (.of_eq (by rw [zW1 4]; congr 1; symm; first | (rw [show bareF 4 _ = false by simpa using h11]; rfl) | (rw [w40f]; simp; done) | (rw [c40f]; simp; done))) (.bool _) Vv
    ·
     have c40t := decide_eq_true (by rw [zH] at h22; simp at h22; omega : c.length ≤ 40)
     refine zQ <| zA <| qR V <| qO V <| zN1 V V V <| qO V <| zH0 V zm103 V V <| qO V <| zT0 V V V V sz103 V V (zB V) V <| qN <| zA <| zA <| qR V <| qF V V V zM1 <| qL V V V V ta3 V <| qN <| zW <| zA <| qR V <| qC V V V V V <| qA V V V <| qN <| zJ V (V) <| zA <| qR V <| qC V V V V V ?_
     refine qA V V V <| qN <| zJ V (V) <| zA <| qR V <| qC V V V V V <| qA V V V <| qN <| zJ V (V) <| zA <| qR V <| qC V V V V V <| qA V V V <| qN <| zX V (V) <| zA <| qR V <| qF V V V zT1 <| qL V V V V ta26 V ?_
     refine qX V V V V co58 (isRow_spec s _) ?_
     refine qM V V V ?_
     refine zB0 (fun h43 => ?_) (fun h43 => ?_)
     ·
      refine qF V V V zT1 <| qL V V V V ta26 V <| qE V V zA0 V <| qF V V V zO1 <| qL V V V V ta28 V <| qE V V zT V <| qC V V V V V <| qP V V V V <| qM V V V ?_
      refine zB0 (fun h52 => ?_) (fun h52 => ?_)
      ·
       have hsl : s.length = w.length := by rw [zH, zZ] at h52; simp at h52; omega
       refine qF V V V zO1 <| qL V V V V ta28 V <| qO V <| zN1 V V V ?_
       refine qX V V V V co59 (vContains_spec _ w (fun x => !isVF (.mk k1 i1) x || noneF (.mk k1 i1) x) _ [] [.ref (S.length + 2) 0, .ref (S.length + 0) 0] co60 (fun x hx X => is2v_spec 4 k1 i1 [] (isVF (.mk k1 i1)) ih1 x (hvs x hx) _ _ _ (get_mid_ (k := 2) V) (get_mid_ (k := 0) V))) ?_
       refine qO V <| zL1 V V <| qP V V V V <| qA V V V <| qN <| zG ?_
       exact zK (.inr V) zK0 V (.of_eq (by rw [zW1 4]; rw [show bareF 4 _ = true by simpa using h11, w40t, c40t]; simp only [Bool.true_and, isVL, List.headD_cons, List.tail_cons]; congr 1; rw [zC]; simp_all [zZ, any_all])) (.bool _) Vv
      ·
       have hsl : ¬ s.length = w.length := by rw [zH, zZ] at h52; simp at h52; omega
       refine qT V V V V <| qS V <| qP V V V V <| qA V V V <| qN <| zG ?_
       exact zK (.inr V) zK0 V (.of_eq (by rw [zW1 4]; rw [show bareF 4 _ = true by simpa using h11, w40t, c40t]; simp only [Bool.true_and, isVL, List.headD_cons, List.tail_cons]; congr 1; rw [zC]; simp_all [zZ, any_all])) (.bool _) Vv
     ·
      refine qT V V V V <| qS V <| qS V <| qS V <| qP V V V V <| qM V V V <| qT V V V V <| qS V <| qP V V V V <| qA V V V <| qN <| zG ?_
      exact zK (.inr V) zK0 V (.of_eq (by rw [zW1 4]; rw [show bareF 4 _ = true by simpa using h11, w40t, c40t]; simp only [Bool.true_and, isVL, List.headD_cons, List.tail_cons]; congr 1; rw [zC]; simp_all [zZ, any_all])) (.bool _) Vv
 ·
  obtain ⟨⟨k1, i1⟩, ⟨k2, i2⟩, rfl⟩ := two_of hd.1
  have ih1 := ih (.mk k1 i1) (hd.2 _ (by simp))
  have ih2 := ih (.mk k2 i2) (hd.2 _ (by simp))
  refine zN zI4 V zT4 (zB V) ?_
  refine zA <| qR V <| qB V V V V V <| qB V V V V V <| qA V V V <| qN <| zA <| zA <| qR V <| qF V V V zM1 <| qL V V V V ta3 V <| qL V V V V ta30 V ?_
  refine qX V V V V co56 (zJ5 5 (by omega) n m s c w _) ?_
  refine qO V <| zL1 V V <| qM V V V ?_
  refine zB0 (fun h11 => ?_) (fun h11 => ?_)
  ·
   refine qT V V V V <| qP V V V V <| qM V V V <| qT V V V V <| qP V V V V <| qN <| zX V (V) <| zA <| qR V <| qA V V V <| qN <| zG ?_
   exact zK (.inr V) zK0 V (.of_eq (by rw [zW1 5]; congr 1; symm; first | (rw [show bareF 5 _ = false by simpa using h11]; rfl) | (rw [w40f]; simp; done) | (rw [c40f]; simp; done))) (.bool _) Vv
  ·
   refine qF V V V zO1 <| qL V V V V ta28 V <| qE V V zT V <| qC V V V V V <| qP V V V V <| qM V V V ?_
   refine zB0 (fun h17 => ?_) (fun h17 => ?_)
   ·
    have w40f := decide_eq_false (by rw [zZ] at h17; simp at h17; omega : ¬ w.length ≤ 40)
    refine qT V V V V <| qP V V V V <| qN <| zX V (V) <| zA <| qR V <| qA V V V <| qN <| zG ?_
    exact zK (.inr V) zK0 V (.of_eq (by rw [zW1 5]; congr 1; symm; first | (rw [show bareF 5 _ = false by simpa using h11]; rfl) | (rw [w40f]; simp; done) | (rw [c40f]; simp; done))) (.bool _) Vv
   ·
    have w40t := decide_eq_true (by rw [zZ] at h17; simp at h17; omega : w.length ≤ 40)
    refine qF V V V zS1 <| qL V V V V ta27 V <| qE V V zS V <| qC V V V V V <| qP V V V V <| qN ?_
    refine zE V (fun h22 => ?_) (fun h22 => ?_)
    ·
     have c40f := decide_eq_false (by rw [zH] at h22; simp at h22; omega : ¬ c.length ≤ 40)
     refine zA <| qR V <| qA V V V <| qN <| zG ?_
     exact zK (.inr V) zK0 V (.of_eq (by rw [zW1 5]; congr 1; symm; first | (rw [show bareF 5 _ = false by simpa using h11]; rfl) | (rw [w40f]; simp; done) | (rw [c40f]; simp; done))) (.bool _) Vv
    ·
     have c40t := decide_eq_true (by rw [zH] at h22; simp at h22; omega : c.length ≤ 40)
     refine zQ <| zA <| qR V <| qO V <| zN1 V V V <| qO V <| zH0 V zm103 V V <| qO V <| zT0 V V V V sz103 V V (zB V) V <| qN <| zA <| zA <| qR V <| qF V V V zM1 <| qL V V V V ta3 V <| qN <| zW <| zA <| qR V <| qC V V V V V <| qA V V V <| qN <| zJ V (V) <| zA <| qR V <| qC V V V V V ?_
     refine qA V V V <| qN <| zJ V (V) <| zA <| qR V <| qC V V V V V <| qA V V V <| qN <| zJ V (V) <| zA <| qR V <| qC V V V V V <| qA V V V <| qN <| zJ V (V) <| zA <| qR V <| qC V V V V V <| qA V V V <| qN <| zX V (V) <| zA ?_
     refine zV0 [] [_] mo (by decide) V V V V ?_
     refine dO V V V (zL V V zO1 Vv) <| dO V V V (zL0 V V V ta28 V Vv) <| dO V V V (op_len_lst V zT V Vv) <| dO V V V (zX2 V V V V Vv) <| dO V V V (zY V V Vv) ?_
     refine zS2 (fun h65 => ?_) (fun h65 => ?_)
     ·
      obtain ⟨⟨n1, m1, s1, c1, w1⟩, ⟨n2, m2, s2, c2, w2⟩, rfl⟩ := two_of' (by rw [zZ] at h65; simp at h65; omega : w.length = 2)
      refine dO V V V (zL V V zC2 Vv) <| dO V V V (zL0 V V V ta22 V Vv) <| dO V V V (zO V zD0 sz24 (by decide) V V V (show _ = some (encS (.mk k1 i1)) from V) Vv) ?_
      refine dO V V V (zP V V ta24 V Vv) <| dO V V V (zL V V zO1 Vv) <| dO V V V (zL0 V V V ta28 V Vv) <| dO V V V (zO V zT sz30 (by decide) V V V (show _ = some (encV (.mk n1 m1 s1 c1 w1)) from V) Vv) ?_
      refine dO V V V (zP V V ta30 V Vv) <| zV V V (.cons (zX0 V V V co36 (ih1 (.mk n1 m1 s1 c1 w1) (hvs _ (by simp)) _)) .nil) ?_
      refine dO V V V (zP1 V V V Vv) <| dO V V V (zY V V Vv) ?_
      refine zS2 (fun h76 => ?_) (fun h76 => ?_)
      ·
       refine dO V V V (zL V V zC2 Vv) <| dO V V V (zL0 V V V ta22 V Vv) <| dO V V V (zO V zD0 sz24 (by decide) V V V (show _ = some (encS (.mk k2 i2)) from V) Vv) ?_
       refine dO V V V (zP V V ta24 V Vv) <| dO V V V (zL V V zO1 Vv) <| dO V V V (zL0 V V V ta28 V Vv) <| dO V V V (zO V zT sz30 (by decide) V V V (show _ = some (encV (.mk n2 m2 s2 c2 w2)) from V) Vv) ?_
       refine dO V V V (zP V V ta30 V Vv) <| zV V V (.cons (zX0 V V V co36 (ih2 (.mk n2 m2 s2 c2 w2) (hvs _ (by simp)) _)) .nil) ?_
       refine dO V V V (zP1 V V V Vv) <| dO V V V (zC1 V V Vv) <| zO0 <| zG ?_
       exact zK (.inr V) zK0 V (.of_eq (by rw [zW1 5]; rw [show bareF 5 _ = true by simpa using h11, w40t, c40t]; simp only [Bool.true_and, isVL, List.headD_cons, List.tail_cons]; first | (congr 1; symm; rw [if_neg (by decide), if_neg (by decide), if_neg (by decide), if_neg (by decide), if_pos True.intro]; exact hm2) | (congr 1; rw [zC]; simp_all [zZ]))) (.bool _) Vv
      ·
       refine dS V V <| dS V V <| dS V V <| dS V V <| dS V V <| dS V V <| dS V V <| dS V V <| dS V V <| dO V V V (zP1 V V V Vv) <| dO V V V (zC1 V V Vv) <| zO0 <| zG ?_
       exact zK (.inr V) zK0 V (.of_eq (by rw [zW1 5]; rw [show bareF 5 _ = true by simpa using h11, w40t, c40t]; simp only [Bool.true_and, isVL, List.headD_cons, List.tail_cons]; first | (congr 1; symm; rw [if_neg (by decide), if_neg (by decide), if_neg (by decide), if_neg (by decide), if_pos True.intro]; exact hm2) | (congr 1; rw [zC]; simp_all [zZ]))) (.bool _) Vv
     ·
      have hm2 := match2_no (f := isVF (.mk k1 i1)) (g := isVF (.mk k2 i2)) (by rw [zZ] at h65; simp at h65; omega : w.length ≠ 2)
      refine dS V V <| dS V V <| dS V V <| dS V V <| dS V V <| dS V V <| dS V V <| dS V V <| dS V V <| dO V V V (zP1 V V V Vv) <| dO V V V (zY V V Vv) <| dS V V <| dS V V <| dS V V <| dS V V <| dS V V <| dS V V <| dS V V <| dS V V <| dS V V <| dO V V V (zP1 V V V Vv) <| dO V V V (zC1 V V Vv) <| zO0 <| zG ?_
      exact zK (.inr V) zK0 V (.of_eq (by rw [zW1 5]; rw [show bareF 5 _ = true by simpa using h11, w40t, c40t]; simp only [Bool.true_and, isVL, List.headD_cons, List.tail_cons]; first | (congr 1; symm; rw [if_neg (by decide), if_neg (by decide), if_neg (by decide), if_neg (by decide), if_pos True.intro]; exact hm2) | (congr 1; rw [zC]; simp_all [zZ]))) (.bool _) Vv
 ·
  refine zN zI4 V zT4 (zB V) ?_
  refine zA <| qR V <| qB V V V V V <| qB V V V V V <| qA V V V <| qN <| zA <| zA <| qR V <| qF V V V zM1 <| qL V V V V ta3 V <| qL V V V V ta30 V ?_
  refine qX V V V V co56 (zJ5 6 (by omega) n m s c w _) ?_
  refine qO V <| zL1 V V <| qM V V V ?_
  refine zB0 (fun h11 => ?_) (fun h11 => ?_)
  ·
   refine qT V V V V <| qP V V V V <| qM V V V <| qT V V V V <| qP V V V V <| qN <| zX V (V) <| zA <| qR V <| qA V V V <| qN <| zG ?_
   exact zK (.inr V) zK0 V (.of_eq (by rw [zW1 6]; congr 1; symm; first | (rw [show bareF 6 _ = false by simpa using h11]; rfl) | (rw [w40f]; simp; done) | (rw [c40f]; simp; done))) (.bool _) Vv
  ·
   refine qF V V V zO1 <| qL V V V V ta28 V <| qE V V zT V <| qC V V V V V <| qP V V V V <| qM V V V ?_
   refine zB0 (fun h17 => ?_) (fun h17 => ?_)
   ·
    have w40f := decide_eq_false (by rw [zZ] at h17; simp at h17; omega : ¬ w.length ≤ 40)
    refine qT V V V V <| qP V V V V <| qN <| zX V (V) <| zA <| qR V <| qA V V V <| qN <| zG ?_
    exact zK (.inr V) zK0 V (.of_eq (by rw [zW1 6]; congr 1; symm; first | (rw [show bareF 6 _ = false by simpa using h11]; rfl) | (rw [w40f]; simp; done) | (rw [c40f]; simp; done))) (.bool _) Vv
   ·
    have w40t := decide_eq_true (by rw [zZ] at h17; simp at h17; omega : w.length ≤ 40)
    refine qF V V V zS1 <| qL V V V V ta27 V <| qE V V zS V <| qC V V V V V <| qP V V V V <| qN ?_
    refine zE V (fun h22 => ?_) (fun h22 => ?_)
    ·
     have c40f := decide_eq_false (by rw [zH] at h22; simp at h22; omega : ¬ c.length ≤ 40)
     refine zA <| qR V <| qA V V V <| qN <| zG ?_
     exact zK (.inr V) zK0 V (.of_eq (by rw [zW1 6]; congr 1; symm; first | (rw [show bareF 6 _ = false by simpa using h11]; rfl) | (rw [w40f]; simp; done) | (rw [c40f]; simp; done))) (.bool _) Vv
    ·
     have c40t := decide_eq_true (by rw [zH] at h22; simp at h22; omega : c.length ≤ 40)
     refine zQ <| zA <| qR V <| qO V <| zN1 V V V <| qO V <| zH0 V zm103 V V <| qO V <| zT0 V V V V sz103 V V (zB V) V <| qN <| zA <| zA <| qR V <| qF V V V zM1 <| qL V V V V ta3 V <| qN <| zW <| zA <| qR V <| qC V V V V V <| qA V V V <| qN <| zJ V (V) <| zA <| qR V <| qC V V V V V ?_
     refine qA V V V <| qN <| zJ V (V) <| zA <| qR V <| qC V V V V V <| qA V V V <| qN <| zJ V (V) <| zA <| qR V <| qC V V V V V <| qA V V V <| qN <| zJ V (V) <| zA <| qR V <| qC V V V V V <| qA V V V <| qN <| zJ V (V) <| zA <| qR V ?_
     refine qC V V V V V <| qA V V V <| qN <| zX V (V) <| zA <| qR V <| qL V V V V ta30 V ?_
     refine qX V V V V co62 (isLast_spec n m s c w hv.1.1 hv.2.1.1 _) ?_
     refine qA V V V <| qN <| zG ?_
     exact zK (.inr V) zK0 V (.of_eq (by rw [zW1 6]; rw [show bareF 6 _ = true by simpa using h11, w40t, c40t]; simp only [Bool.true_and, isVL, List.headD_cons, List.tail_cons]; rfl)) (.bool _) Vv
 ·
  refine zN zI4 V zT4 (zB V) ?_
  refine zA <| qR V <| qB V V V V V <| qB V V V V V <| qA V V V <| qN <| zA <| zA <| qR V <| qF V V V zM1 <| qL V V V V ta3 V <| qL V V V V ta30 V ?_
  refine qX V V V V co56 (zJ5 7 (by omega) n m s c w _) ?_
  refine qO V <| zL1 V V <| qM V V V ?_
  refine zB0 (fun h11 => ?_) (fun h11 => ?_)
  ·
   refine qT V V V V <| qP V V V V <| qM V V V <| qT V V V V <| qP V V V V <| qN <| zX V (V) <| zA <| qR V <| qA V V V <| qN <| zG ?_
   exact zK (.inr V) zK0 V (.of_eq (by rw [zW1 7]; congr 1; symm; first | (rw [show bareF 7 _ = false by simpa using h11]; rfl) | (rw [w40f]; simp; done) | (rw [c40f]; simp; done))) (.bool _) Vv
  ·
   refine qF V V V zO1 <| qL V V V V ta28 V <| qE V V zT V <| qC V V V V V <| qP V V V V <| qM V V V ?_
   refine zB0 (fun h17 => ?_) (fun h17 => ?_)
   ·
    have w40f := decide_eq_false (by rw [zZ] at h17; simp at h17; omega : ¬ w.length ≤ 40)
    refine qT V V V V <| qP V V V V <| qN <| zX V (V) <| zA <| qR V <| qA V V V <| qN <| zG ?_
    exact zK (.inr V) zK0 V (.of_eq (by rw [zW1 7]; congr 1; symm; first | (rw [show bareF 7 _ = false by simpa using h11]; rfl) | (rw [w40f]; simp; done) | (rw [c40f]; simp; done))) (.bool _) Vv
   ·
    have w40t := decide_eq_true (by rw [zZ] at h17; simp at h17; omega : w.length ≤ 40)
    refine qF V V V zS1 <| qL V V V V ta27 V <| qE V V zS V <| qC V V V V V <| qP V V V V <| qN ?_
    refine zE V (fun h22 => ?_) (fun h22 => ?_)
    ·
     have c40f := decide_eq_false (by rw [zH] at h22; simp at h22; omega : ¬ c.length ≤ 40)
     refine zA <| qR V <| qA V V V <| qN <| zG ?_
     exact zK (.inr V) zK0 V (.of_eq (by rw [zW1 7]; congr 1; symm; first | (rw [show bareF 7 _ = false by simpa using h11]; rfl) | (rw [w40f]; simp; done) | (rw [c40f]; simp; done))) (.bool _) Vv
    ·
     have c40t := decide_eq_true (by rw [zH] at h22; simp at h22; omega : c.length ≤ 40)
     refine zQ <| zA <| qR V <| qO V <| zN1 V V V <| qO V <| zH0 V zm103 V V <| qO V <| zT0 V V V V sz103 V V (zB V) V <| qN <| zA <| zA <| qR V <| qF V V V zM1 <| qL V V V V ta3 V <| qN <| zW <| zA <| qR V <| qC V V V V V <| qA V V V <| qN <| zJ V (V) <| zA <| qR V <| qC V V V V V ?_
     refine qA V V V <| qN <| zJ V (V) <| zA <| qR V <| qC V V V V V <| qA V V V <| qN <| zJ V (V) <| zA <| qR V <| qC V V V V V <| qA V V V <| qN <| zJ V (V) <| zA <| qR V <| qC V V V V V <| qA V V V <| qN <| zJ V (V) <| zA <| qR V ?_
     refine qC V V V V V <| qA V V V <| qN <| zJ V (V) <| zA <| qR V <| qC V V V V V <| qA V V V <| qN <| zX V (V) <| zA <| qR V <| qF V V V zS1 <| qL V V V V ta27 V <| qE V V zS V <| qC V V V V V <| qM V V V ?_
     refine zB0 (fun h97 => ?_) (fun h97 => ?_)
     ·
      refine qT V V V V <| qT V V V V <| qT V V V V <| qT V V V V <| qS V <| qS V <| qS V <| qP V V V V <| qA V V V <| qN <| zG ?_
      exact zK (.inr V) zK0 V (.of_eq (by rw [zW1 7]; rw [show bareF 7 _ = true by simpa using h11, w40t, c40t]; simp only [Bool.true_and, isVL, List.headD_cons, List.tail_cons]; first | (congr 1; symm; rw [if_neg (by decide), if_neg (by decide), if_neg (by decide), if_neg (by decide), if_neg (by decide), if_neg (by decide), if_pos True.intro]; exact hm2) | (congr 1; rw [zC]; simp_all))) (.bool _) Vv
     ·
      have hc0 : ¬ c = [] := by simpa using h97
      refine qF V V V zS1 <| qL V V V V ta27 V <| qE V V zS V <| qC V V V V V <| qM V V V ?_
      refine zB0 (fun h102 => ?_) (fun h102 => ?_)
      ·
       obtain ⟨c0, rfl⟩ := one_of (by rw [zH] at h102; simp at h102; omega : c.length = 1)
       refine qF V V V zS1 <| qL V V V V ta27 V <| qO V <| zO V zS sz68 (by decide) V V V (show _ = some (encC c0) from V) ?_
       refine qO V <| zP V V ta68 V <| qE V V zM V <| qC V V V V V <| qP V V V V <| qM V V V ?_
       refine zB0 (fun h110 => ?_) (fun h110 => ?_)
       ·
        refine qF V V V zS1 <| qL V V V V ta27 V <| qO V <| zO V zS sz68 (by decide) V V V (show _ = some (encC c0) from V) ?_
        refine qO V <| zP V V ta68 V ?_
        refine qX V V V V co63 (clkIs_spec c0 _) ?_
        refine qP V V V V <| qP V V V V <| qA V V V <| qN <| zG ?_
        exact zK (.inr V) zK0 V (.of_eq (by rw [zW1 7]; rw [show bareF 7 _ = true by simpa using h11, w40t, c40t]; simp only [Bool.true_and, isVL, List.headD_cons, List.tail_cons]; first | (congr 1; symm; rw [if_neg (by decide), if_neg (by decide), if_neg (by decide), if_neg (by decide), if_neg (by decide), if_neg (by decide), if_pos True.intro]; exact hm2) | (congr 1; rw [zC]; simp_all))) (.bool _) Vv
       ·
        refine qT V V V V <| qS V <| qP V V V V <| qP V V V V <| qA V V V <| qN <| zG ?_
        exact zK (.inr V) zK0 V (.of_eq (by rw [zW1 7]; rw [show bareF 7 _ = true by simpa using h11, w40t, c40t]; simp only [Bool.true_and, isVL, List.headD_cons, List.tail_cons]; first | (congr 1; symm; rw [if_neg (by decide), if_neg (by decide), if_neg (by decide), if_neg (by decide), if_neg (by decide), if_neg (by decide), if_pos True.intro]; exact hm2) | (congr 1; rw [zC]; simp_all))) (.bool _) Vv
      ·
       have hm2 := match1_no hc0 (by rw [zH] at h102; simp at h102; omega : c.length ≠ 1)
       refine qT V V V V <| qS V <| qS V <| qP V V V V <| qM V V V <| qT V V V V <| qS V <| qP V V V V <| qP V V V V <| qA V V V <| qN <| zG ?_
       exact zK (.inr V) zK0 V (.of_eq (by rw [zW1 7]; rw [show bareF 7 _ = true by simpa using h11, w40t, c40t]; simp only [Bool.true_and, isVL, List.headD_cons, List.tail_cons]; first | (congr 1; symm; rw [if_neg (by decide), if_neg (by decide), if_neg (by decide), if_neg (by decide), if_neg (by decide), if_neg (by decide), if_pos True.intro]; exact hm2) | (congr 1; rw [zC]; simp_all))) (.bool _) Vv
 ·
  obtain ⟨⟨k1, i1⟩, rfl⟩ := one_ins hd.1 (by decide)
  have ih1 := ih (.mk k1 i1) (hd.2 _ (by simp))
  refine zN zI4 V zT4 (zB V) ?_
  refine zA <| qR V <| qB V V V V V <| qB V V V V V <| qA V V V <| qN <| zA <| zA <| qR V <| qF V V V zM1 <| qL V V V V ta3 V <| qL V V V V ta30 V ?_
  refine qX V V V V co56 (zJ5 8 (by omega) n m s c w _) ?_
  refine qO V <| zL1 V V <| qM V V V ?_
  refine zB0 (fun h11 => ?_) (fun h11 => ?_)
  ·
   refine qT V V V V <| qP V V V V <| qM V V V <| qT V V V V <| qP V V V V <| qN <| zX V (V) <| zA <| qR V <| qA V V V <| qN <| zG ?_
   exact zK (.inr V) zK0 V (.of_eq (by rw [zW1 8]; congr 1; symm; first | (rw [show bareF 8 _ = false by simpa using h11]; rfl) | (rw [w40f]; simp; done) | (rw [c40f]; simp; done))) (.bool _) Vv
  ·
   refine qF V V V zO1 <| qL V V V V ta28 V <| qE V V zT V <| qC V V V V V <| qP V V V V <| qM V V V ?_
   refine zB0 (fun h17 => ?_) (fun h17 => ?_)
   ·
    have w40f := decide_eq_false (by rw [zZ] at h17; simp at h17; omega : ¬ w.length ≤ 40)
    refine qT V V V V <| qP V V V V <| qN <| zX V (V) <| zA <| qR V <| qA V V V <| qN <| zG ?_
    exact zK (.inr V) zK0 V (.of_eq (by rw [zW1 8]; congr 1; symm; first | (rw [show bareF 8 _ = false by simpa using h11]; rfl) | (rw [w40f]; simp; done) | (rw [c40f]; simp; done))) (.bool _) Vv
   ·
    have w40t := decide_eq_true (by rw [zZ] at h17; simp at h17; omega : w.length ≤ 40)
    refine qF V V V zS1 <| qL V V V V ta27 V <| qE V V zS V <| qC V V V V V <| qP V V V V <| qN ?_
    refine zE V (fun h22 => ?_) (fun h22 => ?_)
    ·
     have c40f := decide_eq_false (by rw [zH] at h22; simp at h22; omega : ¬ c.length ≤ 40)
     refine zA <| qR V <| qA V V V <| qN <| zG ?_
     exact zK (.inr V) zK0 V (.of_eq (by rw [zW1 8]; congr 1; symm; first | (rw [show bareF 8 _ = false by simpa using h11]; rfl) | (rw [w40f]; simp; done) | (rw [c40f]; simp; done))) (.bool _) Vv
    ·
     have c40t := decide_eq_true (by rw [zH] at h22; simp at h22; omega : c.length ≤ 40)
     refine zQ <| zA <| qR V <| qO V <| zN1 V V V <| qO V <| zH0 V zm103 V V <| qO V <| zT0 V V V V sz103 V V (zB V) V <| qN <| zA <| zA <| qR V <| qF V V V zM1 <| qL V V V V ta3 V <| qN <| zW <| zA <| qR V <| qC V V V V V <| qA V V V <| qN <| zJ V (V) <| zA <| qR V <| qC V V V V V ?_
     refine qA V V V <| qN <| zJ V (V) <| zA <| qR V <| qC V V V V V <| qA V V V <| qN <| zJ V (V) <| zA <| qR V <| qC V V V V V <| qA V V V <| qN <| zJ V (V) <| zA <| qR V <| qC V V V V V <| qA V V V <| qN <| zJ V (V) <| zA <| qR V ?_
     refine qC V V V V V <| qA V V V <| qN <| zJ V (V) <| zA <| qR V <| qC V V V V V <| qA V V V <| qN <| zJ V (V) <| zQ <| zA <| qR V <| qF V V V zS1 <| qL V V V V ta27 V <| qE V V zS V <| qF V V V zO1 <| qL V V V V ta28 V <| qE V V zT V <| qC V V V V V ?_
     refine qM V V V ?_
     refine zB0 (fun h125 => ?_) (fun h125 => ?_)
     ·
      have hsl : c.length = w.length := by rw [zH, zZ] at h125; simp at h125; omega
      refine qF V V V zS1 <| qL V V V V ta27 V ?_
      refine qX V V V V co64 (isCause_spec c _) ?_
      refine qP V V V V <| qM V V V ?_
      refine zB0 (fun h130 => ?_) (fun h130 => ?_)
      ·
       refine qF V V V zO1 <| qL V V V V ta28 V <| qO V <| zN1 V V V ?_
       refine qX V V V V co59 (vContains_spec _ w (fun x => !isVF (.mk k1 i1) x) _ [] [.ref (S.length + 2) 0] co65 (fun x hx X => is3v_spec 8 k1 i1 [] (isVF (.mk k1 i1)) ih1 x (hvs x hx) _ _ _ (get_mid_ (k := 2) V) (get_mid_ (k := 0) V))) ?_
       refine qO V <| zL1 V V <| qP V V V V <| qA V V V <| qN <| zG ?_
       exact zK (.inr V) zK0 V (.of_eq (by rw [zW1 8]; rw [show bareF 8 _ = true by simpa using h11, w40t, c40t]; simp only [Bool.true_and, isVL, List.headD_cons, List.tail_cons]; congr 1; rw [zC]; simp_all [zZ, any_all'])) (.bool _) Vv
      ·
       refine qT V V V V <| qS V <| qP V V V V <| qA V V V <| qN <| zG ?_
       exact zK (.inr V) zK0 V (.of_eq (by rw [zW1 8]; rw [show bareF 8 _ = true by simpa using h11, w40t, c40t]; simp only [Bool.true_and, isVL, List.headD_cons, List.tail_cons]; congr 1; rw [zC]; simp_all [zZ, any_all'])) (.bool _) Vv
     ·
      have hsl : ¬ c.length = w.length := by rw [zH, zZ] at h125; simp at h125; omega
      refine qS V <| qS V <| qS V <| qP V V V V <| qM V V V <| qT V V V V <| qS V <| qP V V V V <| qA V V V <| qN <| zG ?_
      exact zK (.inr V) zK0 V (.of_eq (by rw [zW1 8]; rw [show bareF 8 _ = true by simpa using h11, w40t, c40t]; simp only [Bool.true_and, isVL, List.headD_cons, List.tail_cons]; congr 1; rw [zC]; simp_all [zZ, any_all'])) (.bool _) Vv
end Go.Proofs.YtplclefbiimnbaaGreat
namespace Go.Proofs.YtplclefbiimnbaaGreat
open Go Go.MV Go.RowKit
theorem op_load_own {P : Program} {rd : Option Nat} {o : Oper} {env : Env} {K : MV → MS → Prop} {S S1 L : MS} {t : TypeId} {x : Operand} {k off : Nat} {l : List MV} {ta : Option Nat} {m : MV} (hlen : S1.length = S.length) (ho : o.op = .load t x) (hx : evo env x = some (.ref (S.length + k) off)) (hσ : L[k]? = some (.cells l)) (ht : tyAgg P t = some ta) (hm : loadMV ta l off = some m) (h : K m (S1 ++ L)) : OpWp P rd o env (S1 ++ L) K :=
 zR0 ho hx (by rw [own_getS hlen]; exact hσ) ht hm h
theorem _root_.zF0 : type_of% @op_load_own := @op_load_own
theorem op_store_own {P : Program} {rd : Option Nat} {o : Oper} {env : Env} {K : MV → MS → Prop} {S S1 L L' : MS} {t : TypeId} {x y : Operand} {i off : Nat} {l : List MV} {m : MV} {k : Nat} (hlen : S1.length = S.length) (ho : o.op = .store t x y) (hx : evo env x = some (.ref (S.length + i) off)) (hy : evo env y = some m) (hσ : L[i]? = some (.cells l)) (hk : szOf P t = some k) (hm : m.cells.length = k)
  (h1 : m.cells.all MV.one = true) (hle : off + k ≤ l.length) (hL : L.set i (.cells (setMany l off m.cells)) = L') (h : K (.tup []) (S1 ++ L')) : OpWp P rd o env (S1 ++ L) K := by
 refine zZ3 ho hx hy (by rw [own_getS hlen]; exact hσ) hk hm h1 hle ?_
 rw [own_setS hlen, hL]
 exact h
theorem _root_.zY0 : type_of% @op_store_own := @op_store_own
def flatM (k : Int) (r : RdS) : Val × RdS := if k = 3 then (.mk 0 0 (rowM textM r).1 [] [], (rowM textM r).2) else (.mk ((numM r).1 : Int) 0 [] [] [], (numM r).2)
theorem flatM_len (k : Int) (r : RdS) : (flatM k r).2.1.length ≤ r.1.length := by
 unfold flatM
 split
 ·exact rowM_len textM_len r
 ·exact (zV2 r).1
theorem _root_.zU4 : type_of% @Tryz.ntmps23 := @Tryz.ntmps23
theorem _root_.zO2 : type_of% @Tryz.results23 := @Tryz.results23
theorem flat_reads (k : Int) (ins : List Sch) (hk : k = 1 ∨ k = 2 ∨ k = 3) (id : Nat) : Reads 23 [.ref id 0, encS (.mk k ins)] id encV (flatM k) := by
 intro r S h hlen
 rcases hk with rfl | rfl | rfl
 ·
  refine zN zG4 V zU4 (zB V) ?_
  refine zS0 fun _ hcl => ?_
  have hcl0 := hcl
  rw [List.append_nil] at hcl
  refine zA <| qR V <| qB V V V V V <| qB V V V V V <| qO V <| zH0 V zm30 V V <| qN <| zA <| qR V <| qO V <| zH0 V zm30 V V <| qN <| zA <| qR V <| qO V <| zN1 V V V <| qO V <| zH0 V zm81 V V <| qO V <| zY0 (by simp) V V V V sz81 V V (zB V) V ?_
  refine qN <| zA <| zA <| qR V <| qF V V V zM1 <| qO V <| zF0 (by simp) V V V ta3 V ?_
  refine qN <| zW <| zA <| zA <| qR V <| qC V V V V V <| qA V V V <| qN <| zX V (V) <| zQ <| zX V (V) <| qR V <| qO V <| zF0 (by simp) V V V ta60 V ?_
  refine qX V V V V co42 ((zU2 id).sl h hlen) ?_
  refine qF V V V zB4 <| qO V <| zY0 (by simp) V V V V sz25 V V (zB V) V ?_
  refine qN <| zA <| qR V <| qO V <| zF0 (by simp) V V V ta30 V ?_
  refine qO V <| zY0 (by simp) V V V V sz30 V V (zB V) V ?_
  refine qN <| zG ?_
  exact zB2 (y := encV (.mk ((numM r).1 : Int) 0 [] [] [])) (by simp) (.inr V) zO2 V V ta30 V (.agg (.cons (.refl _) (.cons (.refl _) (.cons (.nil 1) (.cons (.nil 1) (.cons (.nil 5) .nil)))))) (zG2 _ _) (hcl.set (zG3 _ _)) Vv
 ·
  refine zN zG4 V zU4 (zB V) ?_
  refine zS0 fun _ hcl => ?_
  have hcl0 := hcl
  rw [List.append_nil] at hcl
  refine zA <| qR V <| qB V V V V V <| qB V V V V V <| qO V <| zH0 V zm30 V V <| qN <| zA <| qR V <| qO V <| zH0 V zm30 V V <| qN <| zA <| qR V <| qO V <| zN1 V V V <| qO V <| zH0 V zm81 V V <| qO V <| zY0 (by simp) V V V V sz81 V V (zB V) V ?_
  refine qN <| zA <| zA <| qR V <| qF V V V zM1 <| qO V <| zF0 (by simp) V V V ta3 V ?_
  refine qN <| zW <| zA <| zA <| qR V <| qC V V V V V <| qA V V V <| qN <| zJ V (V) <| qR V <| qC V V V V V <| qA V V V <| qN <| zX V (V) <| qR V <| qO V <| zF0 (by simp) V V V ta60 V ?_
  refine qX V V V V co42 ((zU2 id).sl h hlen) ?_
  refine qF V V V zB4 <| qO V <| zY0 (by simp) V V V V sz25 V V (zB V) V ?_
  refine qN <| zA <| qR V <| qO V <| zF0 (by simp) V V V ta30 V ?_
  refine qO V <| zY0 (by simp) V V V V sz30 V V (zB V) V ?_
  refine qN <| zG ?_
  exact zB2 (y := encV (.mk ((numM r).1 : Int) 0 [] [] [])) (by simp) (.inr V) zO2 V V ta30 V (.agg (.cons (.refl _) (.cons (.refl _) (.cons (.nil 1) (.cons (.nil 1) (.cons (.nil 5) .nil)))))) (zG2 _ _) (hcl.set (zG3 _ _)) Vv
 ·
  refine zN zG4 V zU4 (zB V) ?_
  refine zS0 fun _ hcl => ?_
  have hcl0 := hcl
  rw [List.append_nil] at hcl
  refine zA <| qR V <| qB V V V V V <| qB V V V V V <| qO V <| zH0 V zm30 V V <| qN <| zA <| qR V <| qO V <| zH0 V zm30 V V <| qN <| zA <| qR V <| qO V <| zN1 V V V <| qO V <| zH0 V zm81 V V <| qO V <| zY0 (by simp) V V V V sz81 V V (zB V) V ?_
  refine qN <| zA <| zA <| qR V <| qF V V V zM1 <| qO V <| zF0 (by simp) V V V ta3 V ?_
  refine qN <| zW <| zA <| zA <| qR V <| qC V V V V V <| qA V V V <| qN <| zJ V (V) <| qR V <| qC V V V V V <| qA V V V <| qN <| zJ V (V) <| zA <| qR V <| qC V V V V V <| qA V V V <| qN <| zX V (V) ?_
  refine zS0 fun _ hcl2 => ?_
  refine qR V <| qO V <| zF0 (by simp) V V V ta60 V ?_
  refine qO V <| zF0 (by simp) V V V ta60 V ?_
  refine qO V <| zN1 V V V ?_
  refine qX V V V V co43 ((rowX_base co44 (text_reads id) textM_len r _ (zO3 h) (by assumption) hlen)) ?_
  rw [set_sl h]
  refine qF V V V zT1 <| qO V <| zY0 (by simp) V V V V sz26 V V (zB V) V ?_
  refine qN <| zA <| qR V <| qO V <| zF0 (by simp) V V V ta30 V ?_
  refine qO V <| zY0 (by simp) V V V V sz30 V V (zB V) V ?_
  refine qN <| zG ?_
  exact zB2 (y := encV (.mk 0 0 (rowM textM r).1 [] [])) (by simp) (.inr V) zO2 V V ta30 V (.agg (.cons (.refl _) (.cons (.refl _) (.cons (.refl _) (.cons (.nil 1) (.cons (.nil 5) .nil)))))) (zG2 _ _) (hcl.set (zG3 _ _)) Vv
end Go.Proofs.YtplclefbiimnbaaGreat
namespace Go.Proofs.YtplclefbiimnbaaGreat
open Go Go.MV
theorem _root_.zC3 : type_of% @Tryz.results50 := @Tryz.results50
theorem arity_spec (k : Int) (S : MS) : MCalls Tryz.prog 50 [.int .i64 k] S fun v σ' => v = .int .i64 (partsF k) ∧ σ' = S := by
 refine zN Tryz.func50 V Tryz.ntmps50 (zB V) ?_
 refine zA <| qR V <| qA V V V <| qN <| zA <| zA <| qR V <| qM V V V <| qN <| zW <| zA <| zA <| qR V <| qC V V V V V <| qA V V V <| qN ?_
 refine zE V (fun h4 => ?_) (fun h4 => ?_)
 ·
  refine zQ <| zX V h4 <| zA <| qR V <| qA V V V <| qN <| zG ?_
  exact zK (.inr V) zC3 V (.refl _) (.int _ _) ⟨by simp_all [partsF], rfl⟩
 ·
  refine zA <| qR V <| qC V V V V V <| qA V V V <| qN ?_
  refine zE V (fun h4 => ?_) (fun h4 => ?_)
  ·
   refine zQ <| zX V h4 <| zA <| qR V <| qA V V V <| qN <| zG ?_
   exact zK (.inr V) zC3 V (.refl _) (.int _ _) ⟨by simp_all [partsF], rfl⟩
  ·
   refine zA <| qR V <| qC V V V V V <| qA V V V <| qN ?_
   refine zE V (fun h4 => ?_) (fun h4 => ?_)
   ·
    refine zQ <| zX V h4 <| zA <| qR V <| qA V V V <| qN <| zG ?_
    exact zK (.inr V) zC3 V (.refl _) (.int _ _) ⟨by simp_all [partsF], rfl⟩
   ·
    refine zA <| qR V <| qC V V V V V <| qA V V V <| qN ?_
    refine zE V (fun h4 => ?_) (fun h4 => ?_)
    ·
     refine zQ <| zX V h4 <| zA <| qR V <| qA V V V <| qN <| zG ?_
     exact zK (.inr V) zC3 V (.refl _) (.int _ _) ⟨by simp_all [partsF], rfl⟩
    ·
     refine qR V <| qC V V V V V <| qA V V V <| qN ?_
     refine zE V (fun h4 => ?_) (fun h4 => ?_)
     ·
      refine zA <| qR V <| qA V V V <| qN <| zG ?_
      exact zK (.inr V) zC3 V (.refl _) (.int _ _) ⟨by simp_all [partsF], rfl⟩
     ·
      refine zA <| zA <| qR V <| qC V V V V V <| qA V V V <| qN ?_
      refine zE V (fun h10 => ?_) (fun h10 => ?_)
      ·
       refine zQ <| zX V h10 <| zA <| qR V <| qA V V V <| qN <| zG ?_
       exact zK (.inr V) zC3 V (.refl _) (.int _ _) ⟨by simp_all [partsF], rfl⟩
      ·
       refine qR V <| qC V V V V V <| qA V V V <| qN ?_
       refine zE V (fun h10 => ?_) (fun h10 => ?_)
       ·
        refine zA <| qR V <| qA V V V <| qN <| zG ?_
        exact zK (.inr V) zC3 V (.refl _) (.int _ _) ⟨by simp_all [partsF], rfl⟩
       ·
        refine zA <| qR V <| qC V V V V V <| qA V V V <| qN ?_
        refine zE V (fun h13 => ?_) (fun h13 => ?_)
        ·
         refine zA <| qR V <| qA V V V <| qN <| zG ?_
         exact zK (.inr V) zC3 V (.refl _) (.int _ _) ⟨by simp_all [partsF], rfl⟩
        ·
         refine zQ <| zA <| qR V <| qA V V V <| qN <| zG ?_
         exact zK (.inr V) zC3 V (.refl _) (.int _ _) ⟨by simp_all [partsF], rfl⟩
theorem rIs_spec (d : Nat) : d < 1000 → ∀ (s : Sch) (S : MS), MCalls Tryz.prog 30 [encS s, .int .i64 (d : Int)] S fun v σ' => v = .bool (isF d s) ∧ σ' = S := by
 induction d with
 | zero =>
  rintro - ⟨k, ins⟩ S
  refine zN Tryz.func30 V Tryz.ntmps30 (zB V) ?_
  refine zA <| qR V <| qB V V V V V <| qA V V V <| qN <| zA <| zA ?_
  refine zV0 [] [_] mo (by decide) V V V V ?_
  refine dO V V V (zY V V Vv) <| dO V V V (zX2 V V V V Vv) <| dO V V V (zY V V Vv) <| dS V V <| dS V V <| dS V V <| dS V V <| dS V V <| dS V V <| dS V V <| dO V V V (zP1 V V V Vv) <| zO0 <| zX V (V) <| zA <| qR V <| qA V V V <| qN <| zG ?_
  exact zK (.inr V) Tryz.results30 V (.refl _) (.bool _) ⟨by simp [isF], rfl⟩
 | succ d ih =>
  rintro hd ⟨k, ins⟩ S
  have h0 : decide (((d + 1 : Nat) : Int) ≤ 0) = false := by simp <;> omega
  have hsub : IntKind.i64.wrap (((d + 1 : Nat) : Int) - 1) = (d : Int) := by rw [zF3 (by omega)]; omega
  refine zN Tryz.func30 V Tryz.ntmps30 (zB V) ?_
  refine zA <| qR V <| qB V V V V V <| qA V V V <| qN <| zA <| zA ?_
  refine zV0 [] [_] mo (by decide) V V V V ?_
  refine dO V V V (zY V V Vv) <| dO V V V (zX2 V V V V Vv) ?_
  rw [h0]
  refine dO V V V (zY V V Vv) <| dO V V V (zL V V zC2 Vv) <| dO V V V (zL0 V V V ta22 V Vv) <| dO V V V (op_len_lst V zD0 V Vv) <| dO V V V (zL V V zM1 Vv) <| dO V V V (zL0 V V V ta3 V Vv) <| zV V V (.cons (zX0 V V V co50 (arity_spec _ _)) .nil) <| dO V V V (zX2 V V V V Vv) <| dO V V V (zP1 V V V Vv) <| zO0 ?_
  refine zE V (fun h16 => ?_) (fun h16 => ?_)
  ·
   refine zA <| qR V <| qA V V V <| qN <| zG ?_
   exact zK (.inr V) Tryz.results30 V (.refl _) (.bool _) ⟨by rw [zF2] at h16; simp at h16; simp [isF]; try (intro h; exact absurd h.symm h16), rfl⟩
  ·
   refine zP2 (t := 10) V fun hlen => ?_
   rw [zF2] at hlen
   refine zQ <| zA <| zA <| qR V <| qA V V V <| qN <| zW ?_
   refine mwp_loop0 (α := Nat) (fun i => [(1, .int .i64 ((d + 1 : Nat) : Int)), (2, .ref (S.length + 0) 0), (5, .int .i64 (i : Int))]) (fun i => [.cells [.int .i64 k, .lst none 2 (encSs ins)]]) (fun i => i ≤ ins.length ∧ (ins.take i).all (isF d) = true) (fun i => ins.length - i) (0) ⟨by omega, rfl⟩ V (.keep V (.keep V (.keep V .nil))) ?_
   rintro i ⟨hi, hall⟩
   refine zA <| zA <| qR V <| qM V V V <| qF V V V zC2 <| qL V V V V ta22 V <| qE V V zD0 V <| qC V V V V V <| qN ?_
   refine zE V (fun h21 => ?_) (fun h21 => ?_)
   ·
    have hlt : i < ins.length := by rw [zF2] at h21; simpa using h21
    obtain ⟨⟨k2, ins2⟩, hs⟩ : ∃ s, ins[i]? = some s := ⟨_, zD hlt⟩
    refine zQ <| zA <| zW <| zA <| qR V <| qF V V V zC2 <| qL V V V V ta22 V <| qM V V V <| qO V <| zO V zD0 sz24 (by decide) V V V (encSs_get hs) ?_
    refine qO V <| zP V V ta24 V <| qM V V V <| qO V <| zU0 V V V V ?_
    rw [hsub]
    refine qX V V V V co30 (ih (by omega) (.mk k2 ins2) _) ?_
    refine qO V <| zL1 V V <| qN ?_
    refine zE V (fun h32 => ?_) (fun h32 => ?_)
    ·
     refine zA <| qR V <| qA V V V <| qN <| zG ?_
     exact zK (.inr V) Tryz.results30 V (.refl _) (.bool _) ⟨by simp only [isF]; rw [List.all_eq_false.2 ⟨_, zU hs, by simpa using h32⟩]; simp, rfl⟩
    ·
     refine zQ <| qR V <| qM V V V <| qO V <| zU0 V V V V <| qA V V V <| qN ?_
     refine ⟨i + 1, by omega, ⟨by omega, ?_⟩, rfl, .keep V (.keep V (.eq V (zH1 hlt hlen) .nil))⟩
     rw [List.take_add_one, hs]
     simp [hall]
     simpa using h32
   ·
    have hge : i = ins.length := by rw [zF2] at h21; simp at h21; omega
    refine zA1 <| zA <| qR V <| qA V V V <| qN <| zG ?_
    exact zK (.inr V) Tryz.results30 V (.refl _) (.bool _) ⟨by rw [hge, List.take_length] at hall; rw [zF2] at h16; simp at h16; simp [isF, hall, h16], rfl⟩
theorem rIsSchema_spec (s : Sch) (S : MS) : MCalls Tryz.prog 16 [encS s] S fun v σ' => v = .bool (isF 16 s) ∧ σ' = S := by
 obtain ⟨k, ins⟩ := s
 refine zN Tryz.func16 V Tryz.ntmps16 (zB V) ?_
 refine zA <| qR V <| qB V V V V V <| qA V V V <| qN <| zA <| qR V <| qL V V V V ta24 V ?_
 refine qX V V V V co30 (rIs_spec 16 (by omega) (.mk k ins) _) ?_
 refine qA V V V <| qN <| zG ?_
 exact zK (.inr V) Tryz.results16 V (.refl _) (.bool _) Vv
theorem drop_cons {α : Type} {l : List α} {i : Nat} {a : α} (h : l[i]? = some a) : l.drop i = a :: l.drop (i + 1) := by
 obtain ⟨hlt, e⟩ := zI.1 h
 rw [List.drop_eq_getElem_cons hlt, e]
theorem rIsClock_spec (c : List Tk) (S : MS) : MCalls Tryz.prog 34 [.lst none 2 (c.map encT)] S fun v σ' => v = .bool (isClockF c) ∧ σ' = S := by
 refine zN Tryz.func34 V Tryz.ntmps34 (zB V) ?_
 refine zP2 (t := 0) V fun hlen => ?_
 rw [zH] at hlen
 refine zA <| qR V <| qA V V V <| qN <| zA <| zA <| qR V <| qA V V V <| qN <| zW ?_
 refine zD1 (α := Nat) [(0, _)] (fun i => [(3, .int .i64 (i : Int))]) (fun i => []) (fun i => i ≤ c.length ∧ ∀ j, j < i → okAt c j = true) (fun i => c.length - i) (0) (.keep V (.nil)) (.keep V (.nil)) (⟨by omega, fun j hj => by omega⟩) (V) ?_
 rintro i ⟨hi, hall⟩
 refine zA <| zA <| qR V <| qM V V V <| qM V V V <| qE V V zM V <| qC V V V V V <| qN ?_
 refine zE V (fun h7 => ?_) (fun h7 => ?_)
 ·
  have hlt : i < c.length := by simpa using h7
  obtain ⟨t, hs⟩ : ∃ q_, c[i]? = some q_ := ⟨_, zD hlt⟩
  refine zQ <| zA <| zW <| zA ?_
  refine zV0 [] [_] mo (by decide) V V V V ?_
  refine dO V V V (zY V V Vv) <| dO V V V (zY V V Vv) <| dO V V V (zO V zM sz87 (by decide) V V V (zE1 hs) Vv) ?_
  refine dO V V V (zF1 V V zQ3 Vv) <| dO V V V (zP V V ta3 V Vv) <| dO V V V (zX2 V V V V Vv) <| dO V V V (zY V V Vv) ?_
  refine zS2 (fun h16 => ?_) (fun h16 => ?_)
  ·
   refine dS V V <| dS V V <| dS V V <| dS V V <| dS V V <| dS V V <| dO V V V (zP1 V V V Vv) <| dO V V V (zY V V Vv) <| dS V V <| dS V V <| dS V V <| dS V V <| dS V V <| dS V V <| dO V V V (zP1 V V V Vv) <| dO V V V (zY V V Vv) <| dS V V <| dS V V <| dS V V <| dS V V <| dS V V <| dS V V <| dS V V <| dS V V <| dS V V <| dS V V <| dS V V <| dS V V <| dS V V <| dS V V ?_
   refine dS V V <| dS V V <| dO V V V (zP1 V V V Vv) <| zO0 <| zX V (V) <| zA <| qR V <| qA V V V <| qN <| zG ?_
   exact zK (.inr V) Tryz.results34 V (.of_eq (by rw [zK3 hlt (by simp_all [okAt] <;> omega)])) (.bool _) Vv
  ·
   refine dO V V V (zY V V Vv) <| dO V V V (zY V V Vv) <| dO V V V (zO V zM sz87 (by decide) V V V (zE1 hs) Vv) ?_
   refine dO V V V (zF1 V V zQ3 Vv) <| dO V V V (zP V V ta3 V Vv) <| dO V V V (zX2 V V V V Vv) <| dO V V V (zP1 V V V Vv) <| dO V V V (zY V V Vv) ?_
   refine zS2 (fun h24 => ?_) (fun h24 => ?_)
   ·
    refine dS V V <| dS V V <| dS V V <| dS V V <| dS V V <| dS V V <| dO V V V (zP1 V V V Vv) <| dO V V V (zY V V Vv) <| dS V V <| dS V V <| dS V V <| dS V V <| dS V V <| dS V V <| dS V V <| dS V V <| dS V V <| dS V V <| dS V V <| dS V V <| dS V V <| dS V V <| dS V V <| dS V V <| dO V V V (zP1 V V V Vv) <| zO0 <| zX V (V) <| zA <| qR V <| qA V V V ?_
    refine qN <| zG ?_
    exact zK (.inr V) Tryz.results34 V (.of_eq (by rw [zK3 hlt (by simp_all [okAt] <;> omega)])) (.bool _) Vv
   ·
    refine dO V V V (zY V V Vv) <| dO V V V (zY V V Vv) <| dO V V V (zO V zM sz87 (by decide) V V V (zE1 hs) Vv) ?_
    refine dO V V V (zF1 V V zA5 Vv) <| dO V V V (zP V V ta25 V Vv) <| dO V V V (zX2 V V V V Vv) <| dO V V V (zP1 V V V Vv) <| dO V V V (zY V V Vv) ?_
    refine zS2 (fun h32 => ?_) (fun h32 => ?_)
    ·
     refine dS V V <| dS V V <| dS V V <| dS V V <| dS V V <| dS V V <| dS V V <| dS V V <| dS V V <| dS V V <| dS V V <| dS V V <| dS V V <| dS V V <| dS V V <| dS V V <| dO V V V (zP1 V V V Vv) <| zO0 <| zX V (V) <| zA <| qR V <| qA V V V <| qN <| zG ?_
     exact zK (.inr V) Tryz.results34 V (.of_eq (by rw [zK3 hlt (by simp_all [okAt] <;> omega)])) (.bool _) Vv
    ·
     refine dO V V V (zY V V Vv) <| dO V V V (zX2 V V V V Vv) <| dO V V V (zY V V Vv) ?_
     refine zS2 (fun h35 => ?_) (fun h35 => ?_)
     ·
      have hi0 : 0 < i := by simpa using h35
      obtain ⟨p, hp⟩ : ∃ a, c[i - 1]? = some a := ⟨_, zD (by omega)⟩
      refine dO V V V (zY V V Vv) <| dO V V V (zY V V Vv) <| dO V V V (zU0 V V V (wsub (a := i) (b := 1) (c := i - 1) (by omega) (by simp only [maxLen] at hlen; omega)) Vv) ?_
      refine dO V V V (zO V zM sz87 (by decide) V V V (zE1 hp) Vv) ?_
      refine dO V V V (zF1 V V zQ3 Vv) <| dO V V V (zP V V ta3 V Vv) <| dO V V V (zY V V Vv) <| dO V V V (zY V V Vv) <| dO V V V (zO V zM sz87 (by decide) V V V (zE1 hs) Vv) ?_
      refine dO V V V (zF1 V V zQ3 Vv) <| dO V V V (zP V V ta3 V Vv) <| dO V V V (zX2 V V V V Vv) <| dO V V V (zP1 V V V Vv) <| dO V V V (zP1 V V V Vv) <| zO0 ?_
      refine zE V (fun h49 => ?_) (fun h49 => ?_)
      ·
       refine zA <| qR V <| qA V V V <| qN <| zG ?_
       exact zK (.inr V) Tryz.results34 V (.of_eq (by rw [zK3 hlt (by simp_all [okAt] <;> omega)])) (.bool _) Vv
      ·
       refine zQ <| qR V <| qM V V V <| qO V <| zU0 V V V V <| qA V V V <| qN ?_
       refine ⟨i + 1, by omega, ⟨by omega, fun j hj => ?_⟩, rfl, (.keep V (.nil)), (.eq V (zH1 hlt hlen) (.nil))⟩
       by_cases e : j = i
       ·subst e; simp_all [okAt]
       ·exact hall j (by omega)
     ·
      refine dS V V <| dS V V <| dS V V <| dS V V <| dS V V <| dS V V <| dS V V <| dS V V <| dS V V <| dS V V <| dS V V <| dS V V <| dO V V V (zP1 V V V Vv) <| dO V V V (zP1 V V V Vv) <| zO0 <| zJ V (V) <| zQ <| qR V <| qM V V V <| qO V <| zU0 V V V V <| qA V V V <| qN ?_
      refine ⟨i + 1, by omega, ⟨by omega, fun j hj => ?_⟩, rfl, (.keep V (.nil)), (.eq V (zH1 hlt hlen) (.nil))⟩
      by_cases e : j = i
      ·subst e; simp_all [okAt]
      ·exact hall j (by omega)
 ·
  have hge : i = c.length := by simp at h7; omega
  refine zA1 <| zA <| qR V <| qM V V V <| qE V V zM V <| qC V V V V V <| qA V V V <| qN <| zG ?_
  exact zK (.inr V) Tryz.results34 V (.of_eq (by rw [isClock_end (fun j hj => hall j (by omega)), zH])) (.bool _) Vv
theorem rOf_spec (c : List Tk) (w : Int) (S : MS) : MCalls Tryz.prog 83 [.lst none 2 (c.map encT), .int .i64 w] S fun v σ' => v = .int .u64 (ofF c w) ∧ σ' = S := by
 refine zN Tryz.func83 V Tryz.ntmps83 (zB V) ?_
 refine zP2 (t := 0) V fun hlen => ?_
 rw [zH] at hlen
 refine zA <| qR V <| qA V V V <| qN <| zA <| zA <| qR V <| qA V V V <| qN <| zW ?_
 refine zD1 (α := Nat) [(0, _), (1, _)] (fun i => [(5, .int .i64 (i : Int))]) (fun i => []) (fun i => i ≤ c.length ∧ ∀ j, j < i → ∀ t, c[j]? = some t → t.1 ≠ w) (fun i => c.length - i) (0) (.keep V (.keep V (.nil))) (.keep V (.nil)) (⟨by omega, fun j hj => by omega⟩) (V) ?_
 rintro i ⟨hi, hall⟩
 refine zA <| zA <| qR V <| qM V V V <| qM V V V <| qE V V zM V <| qC V V V V V <| qN ?_
 refine zE V (fun h9 => ?_) (fun h9 => ?_)
 ·
  have hlt : i < c.length := by simpa using h9
  obtain ⟨t, hs⟩ : ∃ q_, c[i]? = some q_ := ⟨_, zD hlt⟩
  refine zQ <| zA <| zW <| zA <| qR V <| qM V V V <| qM V V V <| qO V <| zO V zM sz87 (by decide) V V V (zE1 hs) ?_
  refine qO V <| zF1 V V zQ3 <| qO V <| zP V V ta3 V <| qM V V V <| qC V V V V V <| qN ?_
  refine zE V (fun h18 => ?_) (fun h18 => ?_)
  ·
   refine zA <| qR V <| qM V V V <| qM V V V <| qO V <| zO V zM sz87 (by decide) V V V (zE1 hs) ?_
   refine qO V <| zF1 V V zA5 <| qO V <| zP V V ta25 V <| qA V V V <| qN <| zG ?_
   exact zK (.inr V) Tryz.results83 V (.of_eq (by rw [← of_drop hall, drop_cons hs, ofF, if_pos (by simpa using h18)])) (.int _ _) Vv
  ·
   refine zQ <| qR V <| qM V V V <| qO V <| zU0 V V V V <| qA V V V <| qN ?_
   refine ⟨i + 1, by omega, ⟨by omega, fun j hj s hj2 => ?_⟩, rfl, (.keep V (.keep V (.nil))), (.eq V (zH1 hlt hlen) (.nil))⟩
   by_cases e : j = i
   ·subst e; rw [hs] at hj2; injection hj2 with hj2; subst hj2; simpa using h18
   ·exact hall j (by omega) s hj2
 ·
  have hge : i = c.length := by simp at h9; omega
  refine zA1 <| zA <| qR V <| qA V V V <| qN <| zG ?_
  exact zK (.inr V) Tryz.results83 V (.of_eq (by rw [← of_drop hall, hge, List.drop_length]; rfl)) (.int _ _) Vv
theorem rSameC_spec (a b : List Tk) (S : MS) : MCalls Tryz.prog 27 [.lst none 2 (a.map encT), .lst none 2 (b.map encT)] S fun v σ' => v = .bool (decide (a = b)) ∧ σ' = S := by
 refine zN Tryz.func27 V Tryz.ntmps27 (zB V) ?_
 refine zP2 (t := 0) V fun hlen => ?_
 rw [zH] at hlen
 refine zA <| qR V <| qA V V V <| qN <| zA <| zA <| qR V <| qM V V V <| qE V V zM V <| qM V V V <| qE V V zM V <| qC V V V V V <| qN ?_
 refine zE V (fun h10 => ?_) (fun h10 => ?_)
 ·
  refine zA <| qR V <| qA V V V <| qN <| zG ?_
  exact zK (.inr V) Tryz.results27 V (.of_eq (by congr 1; symm; rw [decide_eq_false_iff_not]; intro e; subst e; simp at h10)) (.bool _) Vv
 ·
  have hab : a.length = b.length := by simp at h10; omega
  refine zQ <| zA <| zA <| qR V <| qA V V V <| qN <| zW ?_
  refine zD1 (α := Nat) [(0, _), (1, _)] (fun i => [(5, .int .i64 (i : Int))]) (fun i => []) (fun i => i ≤ a.length ∧ a.take i = b.take i) (fun i => a.length - i) (0) (.keep V (.keep V (.nil))) (.keep V (.nil)) (⟨by omega, rfl⟩) (V) ?_
  rintro i ⟨hi, heq⟩
  refine zA <| zA <| qR V <| qM V V V <| qM V V V <| qE V V zM V <| qC V V V V V <| qN ?_
  refine zE V (fun h14 => ?_) (fun h14 => ?_)
  ·
   have hlt : i < a.length := by simpa using h14
   obtain ⟨x, hs⟩ : ∃ q_, a[i]? = some q_ := ⟨_, zD hlt⟩
   obtain ⟨y, hs2⟩ : ∃ s, b[i]? = some s := ⟨_, zD (by omega)⟩
   refine zQ <| zA <| zW <| zA ?_
   refine zV0 [] [_] mo (by decide) V V V V ?_
   refine dO V V V (zY V V Vv) <| dO V V V (zY V V Vv) <| dO V V V (zO V zM sz87 (by decide) V V V (zE1 hs) Vv) ?_
   refine dO V V V (zP V V ta87 V Vv) <| dO V V V (zY V V Vv) <| dO V V V (zY V V Vv) <| dO V V V (zO V zM sz87 (by decide) V V V (zE1 hs2) Vv) ?_
   refine dO V V V (zP V V ta87 V Vv) <| zV V V (.cons (op_eqstruct V (by kernel_rfl) V V V (.inr Vv) Vv) .nil) ?_
   refine zO0 ?_
   refine zE V (fun h25 => ?_) (fun h25 => ?_)
   ·
    refine zA <| qR V <| qA V V V <| qN <| zG ?_
    exact zK (.inr V) Tryz.results27 V (.of_eq (by congr 1; symm; rw [decide_eq_false_iff_not]; intro e; subst e; rw [hs2] at hs; injection hs with hs; subst hs; simp at h25)) (.bool _) Vv
   ·
    refine zQ <| qR V <| qM V V V <| qO V <| zU0 V V V V <| qA V V V <| qN ?_
    refine ⟨i + 1, by omega, ⟨by omega, ?_⟩, rfl, (.keep V (.keep V (.nil))), (.eq V (zH1 hlt hlen) (.nil))⟩
    rw [List.take_add_one, List.take_add_one, hs, hs2, heq]
    obtain ⟨x1, x2⟩ := x; obtain ⟨y1, y2⟩ := y
    simp at h25
    rw [h25.1, h25.2]
  ·
   have hge : i = a.length := by simp at h14; omega
   refine zA1 <| zA <| qR V <| qA V V V <| qN <| zG ?_
   exact zK (.inr V) Tryz.results27 V (.of_eq (by congr 1; symm; rw [decide_eq_true_iff]; rw [hge, List.take_length, hab, List.take_length] at heq; exact heq)) (.bool _) Vv
theorem rUnder_spec (a b : List Tk) (S : MS) : MCalls Tryz.prog 72 [.lst none 2 (a.map encT), .lst none 2 (b.map encT)] S fun v σ' => v = .bool (underF a b) ∧ σ' = S := by
 refine zN Tryz.func72 V Tryz.ntmps72 (zB V) ?_
 refine zP2 (t := 0) V fun hlen => ?_
 rw [zH] at hlen
 refine zA <| qR V <| qA V V V <| qN <| zA <| zA <| qR V <| qA V V V <| qN <| zW ?_
 refine zD1 (α := Nat) [(0, _), (1, _)] (fun i => [(5, .int .i64 (i : Int))]) (fun i => []) (fun i => i ≤ a.length ∧ (a.take i).all (fun t => !decide (t.2 > ofF b t.1)) = true) (fun i => a.length - i) (0) (.keep V (.keep V (.nil))) (.keep V (.nil)) (⟨by omega, rfl⟩) (V) ?_
 rintro i ⟨hi, hall⟩
 refine zA <| zA <| qR V <| qM V V V <| qM V V V <| qE V V zM V <| qC V V V V V <| qN ?_
 refine zE V (fun h9 => ?_) (fun h9 => ?_)
 ·
  have hlt : i < a.length := by simpa using h9
  obtain ⟨t, hs⟩ : ∃ q_, a[i]? = some q_ := ⟨_, zD hlt⟩
  refine zQ <| zA <| zW <| zA ?_
  refine zV0 [] [_] mo (by decide) V V V V ?_
  refine dO V V V (zY V V Vv) <| dO V V V (zY V V Vv) <| dO V V V (zO V zM sz87 (by decide) V V V (zE1 hs) Vv) ?_
  refine dO V V V (zF1 V V zA5 Vv) <| dO V V V (zP V V ta25 V Vv) <| dO V V V (zY V V Vv) <| dO V V V (zY V V Vv) <| dO V V V (zY V V Vv) <| dO V V V (zO V zM sz87 (by decide) V V V (zE1 hs) Vv) ?_
  refine dO V V V (zF1 V V zQ3 Vv) <| dO V V V (zP V V ta3 V Vv) <| zV V V (.cons (zX0 V V V co83 (rOf_spec b t.1 _)) .nil) <| dO V V V (zX2 V V V V Vv) <| zO0 ?_
  refine zE V (fun h24 => ?_) (fun h24 => ?_)
  ·
   refine zA <| qR V <| qA V V V <| qN <| zG ?_
   exact zK (.inr V) Tryz.results72 V (.of_eq (by unfold underF; rw [List.all_eq_false.2 ⟨t, zU hs, by simpa using h24⟩])) (.bool _) Vv
  ·
   refine zQ <| qR V <| qM V V V <| qO V <| zU0 V V V V <| qA V V V <| qN ?_
   refine ⟨i + 1, by omega, ⟨by omega, ?_⟩, rfl, (.keep V (.keep V (.nil))), (.eq V (zH1 hlt hlen) (.nil))⟩
   rw [List.take_add_one, hs, List.all_append, hall]
   simpa using h24
 ·
  have hge : i = a.length := by simp at h9; omega
  refine zA1 <| zA <| qR V <| qA V V V <| qN <| zG ?_
  exact zK (.inr V) Tryz.results72 V (.of_eq (by rw [hge, List.take_length] at hall; unfold underF; rw [hall])) (.bool _) Vv
theorem _root_.zO4 : type_of% @Tryz.results55 := @Tryz.results55
theorem rCmpC_spec (a b : List Tk) (S : MS) : MCalls Tryz.prog 55 [.lst none 2 (a.map encT), .lst none 2 (b.map encT)] S fun v σ' => v = .int .i64 (rcmpF a b) ∧ σ' = S := by
 refine zN Tryz.func55 V Tryz.ntmps55 (zB V) ?_
 refine zA <| qR V <| qA V V V <| qN <| zA <| qR V <| qM V V V <| qM V V V ?_
 refine qX V V V V co72 (rUnder_spec a b _) ?_
 refine qM V V V <| qM V V V ?_
 refine qX V V V V co72 (rUnder_spec b a _) ?_
 refine qA V V V <| qA V V V <| qN <| zA <| zW <| zA <| qR V <| qM V V V <| qM V V V ?_
 refine zB0 (fun h15 => ?_) (fun h15 => ?_)
 ·
  refine qM V V V <| qP V V V V <| qA V V V <| qN ?_
  refine zE V (fun h13 => ?_) (fun h13 => ?_)
  ·
   refine zA <| qR V <| qA V V V <| qN <| zG ?_
   exact zK (.inr V) zO4 V (.of_eq (by unfold rcmpF; simp_all)) (.int _ _) Vv
  ·
   refine zA <| qR V <| qM V V V <| qA V V V <| qN ?_
   refine zE V (fun h18 => ?_) (fun h18 => ?_)
   ·
    refine zA <| qR V <| qA V V V <| qN <| zG ?_
    exact zK (.inr V) zO4 V (.of_eq (by unfold rcmpF; simp_all)) (.int _ _) Vv
   ·
    refine zA <| qR V <| qM V V V <| qA V V V <| qN ?_
    refine zE V (fun h20 => ?_) (fun h20 => ?_)
    ·
     refine zA <| qR V <| qA V V V <| qN <| zG ?_
     exact zK (.inr V) zO4 V (.of_eq (by unfold rcmpF; simp_all)) (.int _ _) Vv
    ·
     refine zQ <| zA <| qR V <| qA V V V <| qN <| zG ?_
     exact zK (.inr V) zO4 V (.of_eq (by unfold rcmpF; simp_all)) (.int _ _) Vv
 ·
  refine qS V <| qP V V V V <| qA V V V <| qN <| zJ V (V) <| zA <| qR V <| qM V V V <| qA V V V <| qN ?_
  refine zE V (fun h18 => ?_) (fun h18 => ?_)
  ·
   refine zA <| qR V <| qA V V V <| qN <| zG ?_
   exact zK (.inr V) zO4 V (.of_eq (by unfold rcmpF; simp_all)) (.int _ _) Vv
  ·
   refine zA <| qR V <| qM V V V <| qA V V V <| qN ?_
   refine zE V (fun h20 => ?_) (fun h20 => ?_)
   ·
    refine zA <| qR V <| qA V V V <| qN <| zG ?_
    exact zK (.inr V) zO4 V (.of_eq (by unfold rcmpF; simp_all)) (.int _ _) Vv
   ·
    refine zQ <| zA <| qR V <| qA V V V <| qN <| zG ?_
    exact zK (.inr V) zO4 V (.of_eq (by unfold rcmpF; simp_all)) (.int _ _) Vv
end Go.Proofs.YtplclefbiimnbaaGreat
