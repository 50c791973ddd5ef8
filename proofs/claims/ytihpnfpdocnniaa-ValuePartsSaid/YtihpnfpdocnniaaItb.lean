/-
  Ranges over functions whose body may leave: by the first round that leaves. Results in cells. No program.
-/
import Derived.Test.YtihpnfpdocnniaaCel
set_option linter.unusedVariables false
set_option linter.unusedSimpArgs false
namespace Go.MV
open Go Go.RowKit
def exCode : Exit → Code
  | .ret => .ret
  | .exit x => .exit x
  | _ => .skip
theorem first_bad (p : Nat → Bool) : ∀ n : Nat, (∀ j, j < n → p j = true) ∨ ∃ m, m < n ∧ p m = false ∧ ∀ j, j < m → p j = true
  | 0 => .inl fun j h => by omega
  | n + 1 => by
    rcases first_bad p n with hall | ⟨m, h1, h2, h3⟩
    · cases h : p n with
      | false => exact .inr ⟨n, by omega, h, hall⟩
      | true =>
        refine .inl fun j hj => ?_
        rcases Nat.lt_or_ge j n with h' | h'
        · exact hall j h'
        · have : j = n := by omega
          subst this
          exact h
    · exact .inr ⟨m, by omega, h2, h3⟩
/-- What is shown of a walk with any answers is shown of the iterator. -/
theorem iterOk_of {P : Program} {k : FuncId} {first caps : List MV} {ys : List (List MV)} {ok : MS → Prop} (h : ∀ (id : Nat) (T : Nat → MS) (m : Nat), (∀ j, ok (T j)) → m ≤ ys.length → (∀ j y, j < m → ys[j]? = some y → YStep P id y (T j) true (T (j + 1))) → (∀ j y, j = m → ys[j]? = some y → YStep P id y (T j) false (T (j + 1))) →
    MCalls P k (first ++ [.yld id] ++ caps) (T 0) fun v σ' => v = .tup [] ∧ σ' = T (if m < ys.length then m + 1 else m)) : IterOk P k first caps ys ok := by
  intro id T m hok hyt
  refine ⟨fun hm => ?_, fun y hy hyf => ?_⟩
  · refine (h id T m hok (by omega) hyt (fun j y hj hy => ?_)).mono ?_
    · have := (List.getElem?_eq_some_iff.1 hy).1; omega
    · rintro v σ' ⟨_, h⟩
      rw [h, if_neg (by omega)]
  · have hm := (List.getElem?_eq_some_iff.1 hy).1
    refine (h id T m hok (by omega) hyt (fun j z hj hz => ?_)).mono ?_
    · subst hj
      rw [hy] at hz
      injection hz with hz
      subst hz
      exact hyf
    · rintro v σ' ⟨_, h⟩
      rw [h, if_pos hm]
section
variable {P : Program} {rd : Option Nat} {N n : Nat} {Q : Exit → Env → MS → Prop} {env : Env} {S : MS}
theorem evos_len {env : Env} : ∀ (l : List Operand) (ys : List MV), evos env l = some ys → l.length = ys.length := by
  intro l
  induction l with
  | nil => intro ys h; injection h with h; subst h; rfl
  | cons x l ih =>
    intro ys h
    simp only [evos] at h
    cases hx : evo env x with
    | none => rw [hx] at h; cases h
    | some m =>
      rw [hx] at h
      cases hl : evos env l with
      | none => simp only [hl] at h; cases h
      | some ms =>
        simp only [hl] at h
        injection h with h
        subst h
        simp [ih _ hl]
/-- The call's own objects and the loop's mark changed: what was closed stays so. -/
theorem cls_swap {A B B' C0 C' : MS} {s s' : LoopState} {q q' : Option Code} {ls : LS} {l : Nat} (h1 : B.length = l) (h2 : B'.length = l) (hB : ∀ o, o ∈ B' → ∀ n, (A ++ C0).length ≤ n → o.cl n) (hm : C0.length = l) (h : ClS ((A ++ B) ++ .loop s q ls :: C')) : ClS ((A ++ B') ++ .loop s' q' ls :: C') := by
  have hle : ((A ++ B') ++ MObj.loop s' q' ls :: C').length = ((A ++ B) ++ MObj.loop s q ls :: C').length := by simp [h1, h2]
  intro id o hid
  rw [hle]
  by_cases c1 : id < A.length
  · refine h id o ?_
    rw [List.append_assoc, List.getElem?_append_left c1] at hid ⊢
    exact hid
  · by_cases c2 : id < (A ++ B').length
    · rw [List.getElem?_append_left c2, List.getElem?_append_right (by omega)] at hid
      refine hB o (List.mem_of_getElem? hid) _ ?_
      simp only [List.length_append, List.length_cons]
      omega
    · by_cases c3 : id = (A ++ B').length
      · subst c3
        rw [get_mid] at hid
        injection hid with hid
        subst hid
        have := h (A ++ B).length (.loop s q ls) get_mid
        exact this
      · refine h id o ?_
        have hl : (A ++ B).length = (A ++ B').length := by simp [h1, h2]
        rw [List.getElem?_append_right (by omega)] at hid ⊢
        rw [hl]
        obtain ⟨d, hd⟩ : ∃ d, id - (A ++ B').length = d + 1 := ⟨id - (A ++ B').length - 1, by omega⟩
        rw [hd] at hid ⊢
        simpa using hid
theorem cls_loop {A : MS} {s : LoopState} {q : Option Code} {ps : Array Tmp} {assign body : Code} {env : Env} {n : Nat} (h : ClS A) (he : ∀ t x, get env t = some x → Cl A.length x) : ClS (A ++ [.loop s q ⟨ps, assign, body, env, n⟩]) := by
  intro id o hid
  by_cases c : id < A.length
  · rw [List.getElem?_append_left c] at hid
    have := h id o hid
    cases o with
    | cells l => exact fun x hx => (this x hx).mono (by simp)
    | loop s p ls => exact fun t x hx => (this t x hx).mono (by simp)
    | row _ _ _ => exact trivial
    | gone => exact trivial
  · rw [List.getElem?_append_right (by omega)] at hid
    obtain ⟨d, hd⟩ : ∃ d, id - A.length = d := ⟨_, rfl⟩
    rw [hd] at hid
    cases d with
    | zero =>
      simp at hid
      subst hid
      exact fun t x hx => (he t x hx).mono (by simp)
    | succ d => simp at hid
theorem IterOk.weak {P : Program} {k : FuncId} {first caps : List MV} {ys : List (List MV)} {ok ok' : MS → Prop} (h : IterOk P k first caps ys ok) (hw : ∀ σ, ok' σ → ok σ) : IterOk P k first caps ys ok' :=
  fun id T m hok hyt => h id T m (fun j => hw _ (hok j)) hyt
/-- A range over a function whose body goes on as long as p is so, and leaves at the first that isn't. L j: the call's own objects behind j rounds that went on; Ls j: behind a round j that left. -/
theorem mwp_rangeB {f : Operand} {ps : Array Tmp} {assign body : Code} {k : FuncId} {first caps : List MV} {ys : List (List MV)} {ok : MS → Prop} {L0 : MS} (ex : Exit) (hex : ex = .ret ∨ ∃ x, ex = .exit x) (p : Nat → Bool) (L Ls : Nat → MS) (hlen : ∀ j, (L j).length = (L 0).length) (hlens : ∀ j, (Ls j).length = (L 0).length) (hL0 : L0 = L 0)
    (hcl : ∀ j o, o ∈ L j → ∀ n, (S ++ L 0).length ≤ n → o.cl n) (hcls : ∀ j o, o ∈ Ls j → ∀ n, (S ++ L 0).length ≤ n → o.cl n)
    (hf : evo env f = some (.fn (.func k) first caps)) (hb : CallOk P k) (hrd : rd = none) (hN : N ≤ S.length)
    (hit : IterOk P k first caps ys (fun σ => ok σ ∧ ClS σ)) (hok : ∀ j, ok ((S ++ L j) ++ [.loop .ready none ⟨ps, assign, body, env, n⟩])) (hoks : ∀ j s q, ok ((S ++ Ls j) ++ [.loop s q ⟨ps, assign, body, env, n⟩])) (hpb : ps.toList.all (fun t => Nat.blt t n) = true) (hps : ∀ y ∈ ys, ps.size = y.length)
    (hround : ∀ j y, ys[j]? = some y → (∀ i, i < j → p i = true) → ∀ L' : MS, mwp P (some (S ++ L 0).length) ((S ++ L j).length + 1 + L'.length) n assign (fun e env1 σ1 => e = .normal ∧ ∃ J, σ1 = ((S ++ L j) ++ .loop .ready none ⟨ps, assign, body, env, n⟩ :: L') ++ J ∧
      mwp P (some (S ++ L 0).length) ((S ++ L j).length + 1 + L'.length) n body (fun e2 env2 σ2 =>
        (p j = true ∧ e2 = .normal ∧ ∃ junk, σ2 = ((S ++ L (j + 1)) ++ .loop .busy none ⟨ps, assign, body, env, n⟩ :: L') ++ junk) ∨
        (p j = false ∧ e2 = ex ∧ ∃ junk, σ2 = ((S ++ Ls j) ++ .loop .busy none ⟨ps, assign, body, env, n⟩ :: L') ++ junk)) env1 (((S ++ L j) ++ .loop .busy none ⟨ps, assign, body, env, n⟩ :: L') ++ J)) (bindPs ps.toList y env) ((S ++ L j) ++ .loop .ready none ⟨ps, assign, body, env, n⟩ :: L'))
    (hend : (∀ j, j < ys.length → p j = true) → Q .normal env ((S ++ L ys.length) ++ [.gone]))
    (hstop : ∀ j y, ys[j]? = some y → p j = false → Q ex env ((S ++ Ls j) ++ [.gone])) : mwp P rd N n (.rangeFunc f ps assign body) Q env (S ++ L0) := by
  subst hL0 hrd
  have hid : ∀ j, (S ++ L j).length = (S ++ L 0).length := fun j => by simp [hlen j]
  have hids : ∀ j, (S ++ Ls j).length = (S ++ L 0).length := fun j => by simp [hlens j]
  refine mwp_facts fun hce hcs => ?_
  have hc0 : ∀ s q, ClS ((S ++ L 0) ++ [.loop s q ⟨ps, assign, body, env, n⟩]) := fun s q => cls_loop hcs hce
  refine mwp_range hf hb (fun id h => by cases h) (by simp; omega) ?_
  -- one call of yield
  have hstep : ∀ j y, ys[j]? = some y → (∀ i, i < j → p i = true) → ∀ (K : MV → MS → Prop) (L' : MS) (rd' : Option Nat) (o : Oper) (env' : Env) (f' : Operand) (args : Array Operand) (ts : Array TypeId), o.op = .call { callee := .value f', args := args, argTypes := ts } → evo env' f' = some (.yld (S ++ L 0).length) → evos env' args.toList = some y →
      (p j = true → K (.bool true) ((S ++ L (j + 1)) ++ .loop .ready none ⟨ps, assign, body, env, n⟩ :: L')) →
      (p j = false → K (.bool false) ((S ++ Ls j) ++ .loop .done (some (exCode ex)) ⟨ps, assign, body, env, n⟩ :: L')) →
      OpWp P rd' o env' ((S ++ L j) ++ .loop .ready none ⟨ps, assign, body, env, n⟩ :: L') K := by
    intro j y hy hbef K L' rd' o env' f' args ts ho hf' hargs hk1 hk2
    have hsz : args.size = y.length := by
      have := evos_len _ _ hargs
      simpa using this
    have hget : ((S ++ L j) ++ MObj.loop .ready none ⟨ps, assign, body, env, n⟩ :: L')[(S ++ L 0).length]? = some (.loop .ready none ⟨ps, assign, body, env, n⟩) := by
      rw [← hid j]; exact get_mid
    have hN' : ((S ++ L j) ++ MObj.loop .ready none ⟨ps, assign, body, env, n⟩ :: L').length = (S ++ L j).length + 1 + L'.length := by
      rw [List.length_append, List.length_cons]; omega
    refine op_yield ho hf' hargs hget (by rw [hsz]; exact hps y (List.mem_of_getElem? hy)) hpb ?_
    rw [hN']
    refine mwp_facts fun _ hcl0 => ?_
    refine mwp_mono (hround j y hy hbef L') ?_
    rintro e env1 σ1 ⟨rfl, J, rfl, h⟩
    refine ⟨rfl, none, get_app hget, ?_⟩
    have hset : (((S ++ L j) ++ MObj.loop .ready none ⟨ps, assign, body, env, n⟩ :: L') ++ J).set (S ++ L 0).length (.loop .busy none ⟨ps, assign, body, env, n⟩) = ((S ++ L j) ++ .loop .busy none ⟨ps, assign, body, env, n⟩ :: L') ++ J := by
      rw [set_app hget, ← hid j]; exact congrArg (· ++ J) set_mid
    rw [hset]
    refine mwp_mono h ?_
    rintro e2 env2 σ2 (⟨hp, rfl, junk, rfl⟩ | ⟨hp, rfl, junk, rfl⟩)
    · refine ⟨_, junk, none, ⟨ps, assign, body, env, n⟩, rfl, ?_, .inr (cls_swap (hlen j) (hlen (j + 1)) (hcl (j + 1)) (by simp) hcl0), ?_, ?_⟩
      · have h1 := hid (j + 1)
        have h2 := hid j
        simp only [List.length_append, List.length_cons] at *
        omega
      · rw [← hid (j + 1)]; exact get_mid
      · show K (.bool true) _
        rw [← hid (j + 1), set_mid]
        exact hk1 hp
    · refine ⟨_, junk, none, ⟨ps, assign, body, env, n⟩, rfl, ?_, .inr (cls_swap (hlen j) (hlens j) (hcls j) (by simp) hcl0), ?_, ?_⟩
      · have h1 := hids j
        have h2 := hid j
        simp only [List.length_append, List.length_cons] at *
        omega
      · rw [← hids j]; exact get_mid
      · rcases hex with rfl | ⟨x, rfl⟩
        · show K (.bool false) _
          rw [← hids j, set_mid]
          exact hk2 hp
        · show K (.bool false) _
          rw [← hids j, set_mid]
          exact hk2 hp
  have hgo : ∀ m, (∀ j, j < m → p j = true) → ∀ (T : Nat → MS), (∀ j, j ≤ m → T j = (S ++ L j) ++ [.loop .ready none ⟨ps, assign, body, env, n⟩]) → ∀ j y, j < m → ys[j]? = some y → YStep P (S ++ L 0).length y (T j) true (T (j + 1)) := by
    intro m hm T hT j y hj hy L' rd' o env' f' args ts ho hf' hargs
    have e1 : ∀ i (X : MObj), ((S ++ L i) ++ [X]) ++ L' = (S ++ L i) ++ X :: L' := fun i X => by simp
    rw [hT j (by omega), hT (j + 1) (by omega), e1, e1]
    exact hstep j y hy (fun i hi => hm i (by omega)) _ L' rd' o env' f' args ts ho hf' hargs (fun _ => ⟨rfl, rfl⟩) (fun h => by rw [hm j hj] at h; cases h)
  rcases first_bad p ys.length with hall | ⟨m, hm, hp, hbef⟩
  · refine ((hit (S ++ L 0).length (fun j => (S ++ L j) ++ [.loop .ready none ⟨ps, assign, body, env, n⟩]) ys.length (fun j => ⟨hok j, cls_swap (hlen 0) (hlen j) (hcl j) rfl (hc0 .ready none)⟩) (hgo ys.length hall _ (fun j _ => rfl))).1 rfl).mono ?_
    rintro v σ' rfl
    refine ⟨.ready, none, by rw [← hid ys.length]; exact get_mid, by simp, ?_⟩
    show Q .normal env _
    rw [← hid ys.length, set_mid]
    exact hend hall
  · obtain ⟨y, hy⟩ : ∃ y, ys[m]? = some y := ⟨_, List.getElem?_eq_getElem hm⟩
    let q : Code := exCode ex
    let T : Nat → MS := fun j => if j ≤ m then (S ++ L j) ++ [.loop .ready none ⟨ps, assign, body, env, n⟩] else (S ++ Ls m) ++ [.loop .done (some q) ⟨ps, assign, body, env, n⟩]
    have hT : ∀ j, j ≤ m → T j = (S ++ L j) ++ [.loop .ready none ⟨ps, assign, body, env, n⟩] := fun j hj => by simp [T, hj]
    have hT1 : T (m + 1) = (S ++ Ls m) ++ [.loop .done (some q) ⟨ps, assign, body, env, n⟩] := by simp [T]
    have h0 : T 0 = (S ++ L 0) ++ [.loop .ready none ⟨ps, assign, body, env, n⟩] := hT 0 (by omega)
    have hokT : ∀ j, ok (T j) ∧ ClS (T j) := fun j => by
      by_cases hj : j ≤ m
      · rw [hT j hj]; exact ⟨hok j, cls_swap (hlen 0) (hlen j) (hcl j) rfl (hc0 .ready none)⟩
      · simp only [T, if_neg hj]; exact ⟨hoks m _ _, cls_swap (hlen 0) (hlens m) (hcls m) rfl (hc0 .ready none)⟩
    have := (hit (S ++ L 0).length T m hokT (hgo m hbef T hT)).2 y hy (by
      intro L' rd' o env' f' args ts ho hf' hargs
      have e1 : ∀ (A : MS) (X : MObj), ((S ++ A) ++ [X]) ++ L' = (S ++ A) ++ X :: L' := fun i X => by simp
      rw [hT m (Nat.le_refl _), hT1, e1, e1]
      exact hstep m y hy hbef _ L' rd' o env' f' args ts ho hf' hargs (fun h => by rw [hp] at h; cases h) (fun _ => ⟨rfl, rfl⟩))
    rw [h0] at this
    refine this.mono ?_
    rintro v σ' rfl
    rw [hT1]
    refine ⟨.done, some q, by rw [← hids m]; exact get_mid, by simp, ?_⟩
    rw [← hids m, set_mid]
    rcases hex with rfl | ⟨x, rfl⟩
    · exact hstop m y hy hp
    · exact hstop m y hy hp
end
section
variable {P : Program} {rd : Option Nat} {o : Oper} {env : Env} {σ : MS} {K : MV → MS → Prop}
/-! The object made last, whatever lies ahead of it. -/
theorem op_load_last {t : TypeId} {x : Operand} {off : Nat} {l : List MV} {ta : Option Nat} {m : MV} (ho : o.op = .load t x) (hx : evo env x = some (.ref σ.length off)) (ht : tyAgg P t = some ta) (hm : loadMV ta l off = some m) (h : K m (σ ++ [.cells l])) : OpWp P rd o env (σ ++ [.cells l]) K :=
  op_load_ref ho hx get_mid ht hm h
theorem op_store_last {t : TypeId} {x y : Operand} {off : Nat} {l : List MV} {m : MV} {k : Nat} (ho : o.op = .store t x y) (hx : evo env x = some (.ref σ.length off)) (hy : evo env y = some m) (hk : szOf P t = some k) (hm : m.cells.length = k) (h1 : m.cells.all MV.one = true) (hle : off + k ≤ l.length)
    (h : K (.tup []) (σ ++ [.cells (setMany l off m.cells)])) : OpWp P rd o env (σ ++ [.cells l]) K :=
  op_store ho hx hy get_mid hk hm h1 hle (by rw [set_mid]; exact h)
theorem YStep.at2 {id : Nat} {xs : List MV} {S S' J J' : MS} {b : Bool} (h : YStep P id xs S b S') {f : Operand} {args : Array Operand} {ts : Array TypeId} (ho : o.op = .call { callee := .value f, args := args, argTypes := ts }) (hf : evo env f = some (.yld id)) (hx : evos env args.toList = some xs) (hk : K (.bool b) ((S' ++ J) ++ J')) : OpWp P rd o env ((S ++ J) ++ J') K := by
  have := h (J ++ J') rd o env f args ts ho hf hx
  rw [← List.append_assoc] at this
  refine this.mono ?_
  rintro v σ' ⟨rfl, rfl⟩
  rw [← List.append_assoc]
  exact hk
end
theorem get_box {A R : MS} {x x' y : MObj} : ((A ++ [x, y]) ++ R)[(A ++ [x']).length]? = some y := by rw [List.length_append, List.append_assoc, getElem?_own]; rfl
theorem get_box2 {A R : MS} {a b a' b' c : MObj} : ((A ++ [a, b, c]) ++ R)[(A ++ [a', b']).length]? = some c := by rw [List.length_append, List.append_assoc, getElem?_own]; rfl
theorem get_rt {A L' : MS} {x y c : MObj} : (A ++ ((y :: L') ++ [c]))[(A ++ x :: L').length]? = some c := by
  have e : (A ++ x :: L').length = (A ++ y :: L').length := by simp
  rw [← List.append_assoc, e]
  exact get_mid
theorem mwp_abs {P : Program} {rd : Option Nat} {N n : Nat} {c : Code} {Q : Exit → Env → MS → Prop} {env : Env} {A R : MS} (h : ∀ R', R' = R → mwp P rd N n c Q env (A ++ R')) : mwp P rd N n c Q env (A ++ R) := h R rfl
section
variable {P : Program} {rd : Option Nat} {o : Oper} {env : Env} {σ σ2 : MS} {K : MV → MS → Prop}
/-- What an operation makes, read as less. -/
theorem op_viewTo {x y : MV} (h : OpWp P rd o env σ fun v σ' => v = x ∧ σ' = σ2) (hs : Sub x y) (hk : K y σ2) : OpWp P rd o env σ K := by
  intro g w a F hF hr hop
  refine Oper.wpIn_mono ?_ (h g w a F hF hr hop)
  rintro a' w' ⟨v, e, x', σ', g', ⟨rfl, rfl⟩, hrel, hrd, hle⟩
  exact ⟨v, e, y, _, g', hk, hrel, hs _ _ _ hrd, hle⟩
variable {N n : Nat} {Q : Exit → Env → MS → Prop}
/-- Both ways of a choice come to one state. -/
theorem mwp_join {c rest : Code} {E : Env} (σ3 : MS) (h1 : mwp P rd N n c (fun e env1 σ1 => e = .normal ∧ σ1 = σ3 ∧ EnvSub env1 E) env σ) (h2 : mwp P rd N n rest Q E σ3) : mwp P rd N n (.seq c rest) Q env σ := by
  refine mwp_seq (mwp_mono h1 ?_)
  rintro e env1 σ1 ⟨rfl, rfl, hs⟩
  exact mwp_env hs.get_ h2
end
/-- Nil in a place of a cell taken for a row of the call's own. -/
theorem mwp_cellrowAt {P : Program} {rd : Option Nat} {N n : Nat} {c : Code} {Q : Exit → Env → MS → Prop} {env : Env} {S L L' : MS} (k i ty sz : Nat) {m : Nat} {l : List MV} (hk : L[k]? = some (.cells l)) (hi : l[i]? = some .lst0) (hN : N ≤ S.length) (hm : L.length = m) (hL : L.set k (.cells (l.set i (.lst (some (S.length + m)) sz []))) ++ [.row ty sz 0] = L') (h : mwp P rd N n c Q env (S ++ L')) : mwp P rd N n c Q env (S ++ L) := by
  subst hm hL
  refine mwp_ghost (fun g w tmps hr he => ?_) h
  obtain ⟨r1, l1, d1⟩ := tok_new hr ty sz
  have hlen : (S ++ L).length = S.length + L.length := List.length_append
  refine ⟨_, ?_, he.mono l1, l1.toN N, fun F hF => hF.mono (l1.toN N)⟩
  have hlt := (List.getElem?_eq_some_iff.1 hk).1
  have e : S ++ (L.set k (.cells (l.set i (.lst (some (S.length + L.length)) sz []))) ++ [.row ty sz 0]) = ((S ++ L) ++ [MObj.row ty sz 0]).set (S.length + k) (.cells (l.set i (.lst (some (S.length + L.length)) sz []))) := by
    rw [List.append_assoc, set_own, List.set_append_left _ _ hlt]
  rw [e]
  refine r1.recell (l := l) (by rw [List.append_assoc, getElem?_own, List.getElem?_append_left hlt]; exact hk) fun us hus => ?_
  obtain ⟨u, hu, hrd⟩ := hus.get hi
  have hs := hus.set i (x := .lst (some (S.length + L.length)) sz []) (u := u) (by rw [hrd.inv_lst0, ← hlen]; exact d1)
  obtain ⟨hul, hue⟩ := List.getElem?_eq_some_iff.1 hu
  rwa [show us.set i u = us by rw [← hue]; exact List.set_getElem_self hul] at hs
end Go.MV
