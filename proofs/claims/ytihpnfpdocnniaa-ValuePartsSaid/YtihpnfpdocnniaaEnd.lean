/-
  How a walk begins and ends; typed data: schemas as values. No program.
-/
import Derived.Test.YtihpnfpdocnniaaRng
set_option linter.unusedVariables false
set_option linter.unusedSimpArgs false
namespace Go.MV
open Go Go.RowKit

section
variable {P : Program} {fn : Func} {S L : MS} {R : MV → MS → Prop} {env : Env}

theorem mcalls_body {f : FuncId} {c : Code} {args : List MV} {n : Nat} (hf : P.funcs[f]? = some fn) (hb : fn.body = some c) (hn : fn.ntmps = n) (ha : args.length ≤ n)
    (h : mwp P none S.length n c (BodyQ P fn S R) (argEnv 0 args) (S ++ [])) : MCalls P f args S R := by
  refine mcalls_of_body hf hb hn ha ?_
  rw [List.append_nil] at h
  exact h

theorem ret_tmp {e : Exit} {t : Nat} {x y : MV} (he : e = .normal ∨ e = .ret) (hres : fn.results = #[.tmp t]) (hx : get env t = some x) (hs : Sub x y) (hc : Cl S.length y) (hR : R y S) : BodyQ P fn S R e env (S ++ L) := by
  refine ⟨he, [x], y, S, L, ?_, hs, hc, rfl, Nat.le_refl _, .inl rfl, hR⟩
  rw [hres]
  exact .tmp hx .nil
theorem ret_tmp2 {e : Exit} {t t' : Nat} {x y x' y' : MV} (he : e = .normal ∨ e = .ret) (hres : fn.results = #[.tmp t, .tmp t']) (hx : get env t = some x) (hx' : get env t' = some x') (hs : Sub x y) (hs' : Sub x' y') (hc : Cl S.length y) (hc' : Cl S.length y') (hR : R (.tup [y, y']) S) : BodyQ P fn S R e env (S ++ L) := by
  refine ⟨he, [x, x'], .tup [y, y'], S, L, ?_, .tup (.cons hs (.cons hs' .nil)), .tup _ (fun z hz => ?_), rfl, Nat.le_refl _, .inl rfl, hR⟩
  · rw [hres]
    exact .tmp hx (.tmp hx' .nil)
  · simp at hz
    rcases hz with rfl | rfl
    · exact hc
    · exact hc'
theorem ret_cell {e : Exit} {a t k off : Nat} {l : List MV} {ta : Option Nat} {x y : MV} (he : e = .normal ∨ e = .ret) (hres : fn.results = #[.cell a t]) (ha : get env a = some (.ref (S.length + k) off)) (hl : L[k]? = some (.cells l)) (ht : tyAgg P t = some ta) (hm : loadMV ta l off = some x) (hs : Sub x y) (hc : Cl S.length y) (hR : R y S) : BodyQ P fn S R e env (S ++ L) := by
  refine ⟨he, [x], y, S, L, ?_, hs, hc, rfl, Nat.le_refl _, .inl rfl, hR⟩
  rw [hres]
  exact .cell ha (by rw [getElem?_own]; exact hl) ht hm .nil

theorem Sub.of_eq {x y : MV} (h : x = y) : Sub x y := h ▸ .refl x
theorem wrap_i64 {n : Int} (h : -9223372036854775808 ≤ n ∧ n ≤ 9223372036854775807) : IntKind.i64.wrap n = n := by
  rw [IntKind.wrap_i64]; omega
end

theorem int_succ {i n : Nat} (h : i < n) (hn : n ≤ maxLen) : MV.int .i64 (IntKind.i64.wrap ((i : Int) + 1)) = .int .i64 ((i + 1 : Nat) : Int) := by
  rw [wrap_i64 (by simp only [maxLen] at hn; omega)]
  rfl
section
variable {P : Program} {rd : Option Nat} {N n : Nat} {Q : Exit → Env → MS → Prop} {env : Env} {σ : MS} {c : Code}
theorem mwp_len {t : Nat} {tok : Option Nat} {sz : Nat} {xs : List MV} (ht : get env t = some (.lst tok sz xs)) (h : xs.length ≤ maxLen → mwp P rd N n c Q env σ) : mwp P rd N n c Q env σ := by
  intro g w a F m0 hF hr he hn hm
  obtain ⟨v, _, hv⟩ := he t _ ht
  obtain ⟨_, _, _, _, h1, h2, _⟩ := hv.inv_lst
  exact h (by omega) g w a F m0 hF hr he hn hm
end

theorem Rel.obj_sub {g : Gh} {σ : MS} {w : World} (h : Rel g σ w) {id : Nat} {l l' : List MV} (hσ : σ[id]? = some (.cells l)) (hs : Subs l l') : Rel g (σ.set id (.cells l')) w := by
  obtain ⟨own, hown⟩ := h.ex
  refine ⟨h.below, h.base, h.fresh, fun i hi => h.bkn i (by simpa using hi), fun t k ht => h.lgn t k (by simpa using ht), own, ⟨fun i o hi => ?_, hown.inj, fun i b hi => ?_⟩⟩
  · by_cases e : id = i
    · subst e
      rw [List.getElem?_set_self (List.getElem?_eq_some_iff.1 hσ).1] at hi
      injection hi with hi
      subst hi
      obtain ⟨b, us, ty, h1, h2, h3, h4, h5⟩ := hown.obj _ _ hσ
      exact ⟨b, us, ty, h1, h2, h3, h4, hs.rds h5⟩
    · rw [List.getElem?_set_ne e] at hi
      exact hown.obj i o hi
  · obtain ⟨h1, h2⟩ := hown.lt i b hi
    exact ⟨by simpa using h1, h2⟩
section
variable {P : Program} {rd : Option Nat} {N n : Nat} {Q : Exit → Env → MS → Prop} {env : Env} {S L : MS} {c : Code}
theorem mwp_own_sub (k : Nat) {l l' : List MV} {L' : MS} (hσ : L[k]? = some (.cells l)) (hs : Subs l l') (hL : L.set k (.cells l') = L') (h : mwp P rd N n c Q env (S ++ L')) : mwp P rd N n c Q env (S ++ L) := by
  refine mwp_ghost (fun g w tmps hr he => ⟨g, ?_, he, .refl _ _ _, fun _ hF => hF⟩) h
  have := hr.obj_sub (by rw [getElem?_own]; exact hσ) hs (id := S.length + k)
  rw [set_own, hL] at this
  exact this
end

/-! ### Schemas -/

inductive Sch where
  | mk (kind : Int) (ins : List Sch)
  deriving Inhabited
mutual
def encS : Sch → MV
  | .mk k ins => .agg [.int .i64 k, .lst none 2 (encSs ins)]
def encSs : List Sch → List MV
  | [] => []
  | s :: l => encS s :: encSs l
end
theorem encSs_eq : ∀ l : List Sch, encSs l = l.map encS
  | [] => by simp [encSs]
  | s :: l => by simp [encSs, encSs_eq l]
theorem encSs_length (l : List Sch) : (encSs l).length = l.length := by rw [encSs_eq, List.length_map]
theorem encSs_get {l : List Sch} {i : Nat} {s : Sch} (h : l[i]? = some s) : (encSs l)[i]? = some (encS s) := by rw [encSs_eq, List.getElem?_map, h]; rfl
theorem encS_cells (s : Sch) : (encS s).cells.length = 2 := by cases s; rfl
theorem encS_one (s : Sch) : (encS s).cells.all MV.one = true := by cases s; rfl
mutual
theorem cl_encS (n : Nat) : ∀ s : Sch, Cl n (encS s)
  | .mk k ins => by
    refine .agg _ fun x hx => ?_
    simp only [encS, List.mem_cons, List.not_mem_nil, or_false] at hx
    rcases hx with rfl | rfl
    · exact .int _ _
    · exact .lst none 2 _ (fun t ht => by cases ht) (cl_encSs n ins)
theorem cl_encSs (n : Nat) : ∀ (l : List Sch), ∀ x ∈ flat (encSs l), Cl n x
  | [], x, hx => by simp [encSs, flat] at hx
  | s :: l, x, hx => by
    rw [encSs, flat_cons, List.mem_append] at hx
    rcases hx with hx | hx
    · have h := cl_encS n s
      cases s with
      | mk k ins =>
        cases h with
        | agg _ h => exact h x hx
    · exact cl_encSs n l x hx
end
theorem cl_encSl (n : Nat) (l : List Sch) : Cl n (.lst none 2 (encSs l)) := .lst none 2 _ (fun t ht => by cases ht) (cl_encSs n l)
end Go.MV
