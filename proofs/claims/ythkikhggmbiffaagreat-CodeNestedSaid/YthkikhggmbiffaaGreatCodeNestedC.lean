/-
  Texts on which the proof of CodeNested leans: part 3.
-/
import Derived.Test.YthkikhggmbiffaaGreatCodeNestedB
section
set_option linter.unusedVariables false
set_option linter.unusedSimpArgs false
namespace Go.MV
open Go Go.RowKit
def exCode : Exit → Code
  | .ret => .ret
  | .exit x => .exit x
  | _ => .skip
theorem first_bad (p : Nat → Bool) : ∀ n : Nat, (∀ j, j < n → p j = true) ∨ ∃ m, m < n ∧ p m = false ∧ ∀ j, j < m → p j = true
  | 0 => .inl fun j h => by omega
  | n + 1 => by
    rcases first_bad p n with hall | ⟨m, h1, h2, h3⟩
    · cases h : p n with
      | false => exact .inr ⟨n, by omega, h, hall⟩
      | true =>
        refine .inl fun j hj => ?_
        rcases Nat.lt_or_ge j n with h' | h'
        · exact hall j h'
        · have : j = n := by omega
          subst this
          exact h
    · exact .inr ⟨m, by omega, h2, h3⟩
theorem iterOk_of {P : Program} {k : FuncId} {first caps : List MV} {ys : List (List MV)} {ok : MS → Prop} (h : ∀ (id : Nat) (T : Nat → MS) (m : Nat), (∀ j, ok (T j)) → m ≤ ys.length → (∀ j y, j < m → ys[j]? = some y → YStep P id y (T j) true (T (j + 1))) → (∀ j y, j = m → ys[j]? = some y → YStep P id y (T j) false (T (j + 1))) →
    MCalls P k (first ++ [.yld id] ++ caps) (T 0) fun v σ' => v = .tup [] ∧ σ' = T (if m < ys.length then m + 1 else m)) : IterOk P k first caps ys ok := by
  intro id T m hok hyt
  refine ⟨fun hm => ?_, fun y hy hyf => ?_⟩
  · refine (h id T m hok (by omega) hyt (fun j y hj hy => ?_)).mono ?_
    · have := (List.getElem?_eq_some_iff.1 hy).1; omega
    · rintro v σ' ⟨_, h⟩
      rw [h, if_neg (by omega)]
  · have hm := (List.getElem?_eq_some_iff.1 hy).1
    refine (h id T m hok (by omega) hyt (fun j z hj hz => ?_)).mono ?_
    · subst hj
      rw [hy] at hz
      injection hz with hz
      subst hz
      exact hyf
    · rintro v σ' ⟨_, h⟩
      rw [h, if_pos hm]
section
variable {P : Program} {rd : Option Nat} {N n : Nat} {Q : Exit → Env → MS → Prop} {env : Env} {S : MS}
theorem evos_len {env : Env} : ∀ (l : List Operand) (ys : List MV), evos env l = some ys → l.length = ys.length := by
  intro l
  induction l with
  | nil => intro ys h; injection h with h; subst h; rfl
  | cons x l ih =>
    intro ys h
    simp only [evos] at h
    cases hx : evo env x with
    | none => rw [hx] at h; cases h
    | some m =>
      rw [hx] at h
      cases hl : evos env l with
      | none => simp only [hl] at h; cases h
      | some ms =>
        simp only [hl] at h
        injection h with h
        subst h
        simp [ih _ hl]
theorem cls_swap {A B B' C0 C' : MS} {s s' : LoopState} {q q' : Option Code} {ls : LS} {l : Nat} (h1 : B.length = l) (h2 : B'.length = l) (hB : ∀ o, o ∈ B' → ∀ n, (A ++ C0).length ≤ n → o.cl n) (hm : C0.length = l) (h : ClS ((A ++ B) ++ .loop s q ls :: C')) : ClS ((A ++ B') ++ .loop s' q' ls :: C') := by
  have hle : ((A ++ B') ++ MObj.loop s' q' ls :: C').length = ((A ++ B) ++ MObj.loop s q ls :: C').length := by simp [h1, h2]
  intro id o hid
  rw [hle]
  by_cases c1 : id < A.length
  · refine h id o ?_
    rw [List.append_assoc, List.getElem?_append_left c1] at hid ⊢
    exact hid
  · by_cases c2 : id < (A ++ B').length
    · rw [List.getElem?_append_left c2, List.getElem?_append_right (by omega)] at hid
      refine hB o (List.mem_of_getElem? hid) _ ?_
      simp only [List.length_append, List.length_cons]
      omega
    · by_cases c3 : id = (A ++ B').length
      · subst c3
        rw [get_mid] at hid
        injection hid with hid
        subst hid
        have := h (A ++ B).length (.loop s q ls) get_mid
        exact this
      · refine h id o ?_
        have hl : (A ++ B).length = (A ++ B').length := by simp [h1, h2]
        rw [List.getElem?_append_right (by omega)] at hid ⊢
        rw [hl]
        obtain ⟨d, hd⟩ : ∃ d, id - (A ++ B').length = d + 1 := ⟨id - (A ++ B').length - 1, by omega⟩
        rw [hd] at hid ⊢
        simpa using hid
theorem cls_loop {A : MS} {s : LoopState} {q : Option Code} {ps : Array Tmp} {assign body : Code} {env : Env} {n : Nat} (h : ClS A) (he : ∀ t x, get env t = some x → Cl A.length x) : ClS (A ++ [.loop s q ⟨ps, assign, body, env, n⟩]) := by
  intro id o hid
  by_cases c : id < A.length
  · rw [List.getElem?_append_left c] at hid
    have := h id o hid
    cases o with
    | cells l => exact fun x hx => (this x hx).mono (by simp)
    | loop s p ls => exact fun t x hx => (this t x hx).mono (by simp)
    | row _ _ _ => exact trivial
    | mp es => exact fun e he => (this e he).mono (by simp)
    | pin _ _ => exact trivial
    | tcells _ l => exact fun x hx => (this x hx).mono (by simp)
    | gone => exact trivial
  · rw [List.getElem?_append_right (by omega)] at hid
    obtain ⟨d, hd⟩ : ∃ d, id - A.length = d := ⟨_, rfl⟩
    rw [hd] at hid
    cases d with
    | zero =>
      simp at hid
      subst hid
      exact fun t x hx => (he t x hx).mono (by simp)
    | succ d => simp at hid
theorem IterOk.weak {P : Program} {k : FuncId} {first caps : List MV} {ys : List (List MV)} {ok ok' : MS → Prop} (h : IterOk P k first caps ys ok) (hw : ∀ σ, ok' σ → ok σ) : IterOk P k first caps ys ok' :=
  fun id T m hok hyt => h id T m (fun j => hw _ (hok j)) hyt
theorem mwp_rangeB {f : Operand} {ps : Array Tmp} {assign body : Code} {k : FuncId} {first caps : List MV} {ys : List (List MV)} {ok : MS → Prop} {L0 : MS} (ex : Exit) (hex : ex = .ret ∨ ∃ x, ex = .exit x) (p : Nat → Bool) (L Ls : Nat → MS) (hlen : ∀ j, (L j).length = (L 0).length) (hlens : ∀ j, (Ls j).length = (L 0).length) (hL0 : L0 = L 0)
    (hcl : ∀ j o, o ∈ L j → ∀ n, (S ++ L 0).length ≤ n → o.cl n) (hcls : ∀ j o, o ∈ Ls j → ∀ n, (S ++ L 0).length ≤ n → o.cl n)
    (hf : evo env f = some (.fn (.func k) first caps)) (hb : CallOk P k) (hrd : rd = none) (hN : N ≤ S.length)
    (hit : IterOk P k first caps ys (fun σ => ok σ ∧ ClS σ)) (hok : ∀ j, ok ((S ++ L j) ++ [.loop .ready none ⟨ps, assign, body, env, n⟩])) (hoks : ∀ j s q, ok ((S ++ Ls j) ++ [.loop s q ⟨ps, assign, body, env, n⟩])) (hpb : ps.toList.all (fun t => Nat.blt t n) = true) (hps : ∀ y ∈ ys, ps.size = y.length)
    (hround : ∀ j y, ys[j]? = some y → (∀ i, i < j → p i = true) → ∀ L' : MS, mwp P (some (S ++ L 0).length) ((S ++ L j).length + 1 + L'.length) n assign (fun e env1 σ1 => e = .normal ∧ ∃ J, σ1 = ((S ++ L j) ++ .loop .ready none ⟨ps, assign, body, env, n⟩ :: L') ++ J ∧
      mwp P (some (S ++ L 0).length) ((S ++ L j).length + 1 + L'.length) n body (fun e2 env2 σ2 =>
        (p j = true ∧ e2 = .normal ∧ ∃ junk, σ2 = ((S ++ L (j + 1)) ++ .loop .busy none ⟨ps, assign, body, env, n⟩ :: L') ++ junk) ∨
        (p j = false ∧ e2 = ex ∧ ∃ junk, σ2 = ((S ++ Ls j) ++ .loop .busy none ⟨ps, assign, body, env, n⟩ :: L') ++ junk)) env1 (((S ++ L j) ++ .loop .busy none ⟨ps, assign, body, env, n⟩ :: L') ++ J)) (bindPs ps.toList y env) ((S ++ L j) ++ .loop .ready none ⟨ps, assign, body, env, n⟩ :: L'))
    (hend : (∀ j, j < ys.length → p j = true) → Q .normal env ((S ++ L ys.length) ++ [.gone]))
    (hstop : ∀ j y, ys[j]? = some y → p j = false → Q ex env ((S ++ Ls j) ++ [.gone])) : mwp P rd N n (.rangeFunc f ps assign body) Q env (S ++ L0) := by
  subst hL0 hrd
  have hid : ∀ j, (S ++ L j).length = (S ++ L 0).length := fun j => by simp [hlen j]
  have hids : ∀ j, (S ++ Ls j).length = (S ++ L 0).length := fun j => by simp [hlens j]
  refine mwp_facts fun hce hcs => ?_
  have hc0 : ∀ s q, ClS ((S ++ L 0) ++ [.loop s q ⟨ps, assign, body, env, n⟩]) := fun s q => cls_loop hcs hce
  refine mwp_range hf hb (fun id h => by cases h) (by simp; omega) ?_
  have hstep : ∀ j y, ys[j]? = some y → (∀ i, i < j → p i = true) → ∀ (K : MV → MS → Prop) (L' : MS) (rd' : Option Nat) (o : Oper) (env' : Env) (f' : Operand) (args : Array Operand) (ts : Array TypeId), o.op = .call { callee := .value f', args := args, argTypes := ts } → evo env' f' = some (.yld (S ++ L 0).length) → evos env' args.toList = some y →
      (p j = true → K (.bool true) ((S ++ L (j + 1)) ++ .loop .ready none ⟨ps, assign, body, env, n⟩ :: L')) →
      (p j = false → K (.bool false) ((S ++ Ls j) ++ .loop .done (some (exCode ex)) ⟨ps, assign, body, env, n⟩ :: L')) →
      OpWp P rd' o env' ((S ++ L j) ++ .loop .ready none ⟨ps, assign, body, env, n⟩ :: L') K := by
    intro j y hy hbef K L' rd' o env' f' args ts ho hf' hargs hk1 hk2
    have hsz : args.size = y.length := by
      have := evos_len _ _ hargs
      simpa using this
    have hget : ((S ++ L j) ++ MObj.loop .ready none ⟨ps, assign, body, env, n⟩ :: L')[(S ++ L 0).length]? = some (.loop .ready none ⟨ps, assign, body, env, n⟩) := by
      rw [← hid j]; exact get_mid
    have hN' : ((S ++ L j) ++ MObj.loop .ready none ⟨ps, assign, body, env, n⟩ :: L').length = (S ++ L j).length + 1 + L'.length := by
      rw [List.length_append, List.length_cons]; omega
    refine op_yield ho hf' hargs hget (by rw [hsz]; exact hps y (List.mem_of_getElem? hy)) hpb ?_
    rw [hN']
    refine mwp_facts fun _ hcl0 => ?_
    refine mwp_mono (hround j y hy hbef L') ?_
    rintro e env1 σ1 ⟨rfl, J, rfl, h⟩
    refine ⟨rfl, none, get_app hget, ?_⟩
    have hset : (((S ++ L j) ++ MObj.loop .ready none ⟨ps, assign, body, env, n⟩ :: L') ++ J).set (S ++ L 0).length (.loop .busy none ⟨ps, assign, body, env, n⟩) = ((S ++ L j) ++ .loop .busy none ⟨ps, assign, body, env, n⟩ :: L') ++ J := by
      rw [set_app hget, ← hid j]; exact congrArg (· ++ J) set_mid
    rw [hset]
    refine mwp_mono h ?_
    rintro e2 env2 σ2 (⟨hp, rfl, junk, rfl⟩ | ⟨hp, rfl, junk, rfl⟩)
    · refine ⟨_, junk, none, ⟨ps, assign, body, env, n⟩, rfl, ?_, .inr (cls_swap (hlen j) (hlen (j + 1)) (hcl (j + 1)) (by simp) hcl0), ?_, ?_⟩
      · have h1 := hid (j + 1)
        have h2 := hid j
        simp only [List.length_append, List.length_cons] at *
        omega
      · rw [← hid (j + 1)]; exact get_mid
      · show K (.bool true) _
        rw [← hid (j + 1), set_mid]
        exact hk1 hp
    · refine ⟨_, junk, none, ⟨ps, assign, body, env, n⟩, rfl, ?_, .inr (cls_swap (hlen j) (hlens j) (hcls j) (by simp) hcl0), ?_, ?_⟩
      · have h1 := hids j
        have h2 := hid j
        simp only [List.length_append, List.length_cons] at *
        omega
      · rw [← hids j]; exact get_mid
      · rcases hex with rfl | ⟨x, rfl⟩
        · show K (.bool false) _
          rw [← hids j, set_mid]
          exact hk2 hp
        · show K (.bool false) _
          rw [← hids j, set_mid]
          exact hk2 hp
  have hgo : ∀ m, (∀ j, j < m → p j = true) → ∀ (T : Nat → MS), (∀ j, j ≤ m → T j = (S ++ L j) ++ [.loop .ready none ⟨ps, assign, body, env, n⟩]) → ∀ j y, j < m → ys[j]? = some y → YStep P (S ++ L 0).length y (T j) true (T (j + 1)) := by
    intro m hm T hT j y hj hy L' rd' o env' f' args ts ho hf' hargs
    have e1 : ∀ i (X : MObj), ((S ++ L i) ++ [X]) ++ L' = (S ++ L i) ++ X :: L' := fun i X => by simp
    rw [hT j (by omega), hT (j + 1) (by omega), e1, e1]
    exact hstep j y hy (fun i hi => hm i (by omega)) _ L' rd' o env' f' args ts ho hf' hargs (fun _ => ⟨rfl, rfl⟩) (fun h => by rw [hm j hj] at h; cases h)
  rcases first_bad p ys.length with hall | ⟨m, hm, hp, hbef⟩
  · refine ((hit (S ++ L 0).length (fun j => (S ++ L j) ++ [.loop .ready none ⟨ps, assign, body, env, n⟩]) ys.length (fun j => ⟨hok j, cls_swap (hlen 0) (hlen j) (hcl j) rfl (hc0 .ready none)⟩) (hgo ys.length hall _ (fun j _ => rfl))).1 rfl).mono ?_
    rintro v σ' rfl
    refine ⟨.ready, none, by rw [← hid ys.length]; exact get_mid, by simp, ?_⟩
    show Q .normal env _
    rw [← hid ys.length, set_mid]
    exact hend hall
  · obtain ⟨y, hy⟩ : ∃ y, ys[m]? = some y := ⟨_, List.getElem?_eq_getElem hm⟩
    let q : Code := exCode ex
    let T : Nat → MS := fun j => if j ≤ m then (S ++ L j) ++ [.loop .ready none ⟨ps, assign, body, env, n⟩] else (S ++ Ls m) ++ [.loop .done (some q) ⟨ps, assign, body, env, n⟩]
    have hT : ∀ j, j ≤ m → T j = (S ++ L j) ++ [.loop .ready none ⟨ps, assign, body, env, n⟩] := fun j hj => by simp [T, hj]
    have hT1 : T (m + 1) = (S ++ Ls m) ++ [.loop .done (some q) ⟨ps, assign, body, env, n⟩] := by simp [T]
    have h0 : T 0 = (S ++ L 0) ++ [.loop .ready none ⟨ps, assign, body, env, n⟩] := hT 0 (by omega)
    have hokT : ∀ j, ok (T j) ∧ ClS (T j) := fun j => by
      by_cases hj : j ≤ m
      · rw [hT j hj]; exact ⟨hok j, cls_swap (hlen 0) (hlen j) (hcl j) rfl (hc0 .ready none)⟩
      · simp only [T, if_neg hj]; exact ⟨hoks m _ _, cls_swap (hlen 0) (hlens m) (hcls m) rfl (hc0 .ready none)⟩
    have := (hit (S ++ L 0).length T m hokT (hgo m hbef T hT)).2 y hy (by
      intro L' rd' o env' f' args ts ho hf' hargs
      have e1 : ∀ (A : MS) (X : MObj), ((S ++ A) ++ [X]) ++ L' = (S ++ A) ++ X :: L' := fun i X => by simp
      rw [hT m (Nat.le_refl _), hT1, e1, e1]
      exact hstep m y hy hbef _ L' rd' o env' f' args ts ho hf' hargs (fun h => by rw [hp] at h; cases h) (fun _ => ⟨rfl, rfl⟩))
    rw [h0] at this
    refine this.mono ?_
    rintro v σ' rfl
    rw [hT1]
    refine ⟨.done, some q, by rw [← hids m]; exact get_mid, by simp, ?_⟩
    rw [← hids m, set_mid]
    rcases hex with rfl | ⟨x, rfl⟩
    · exact hstop m y hy hp
    · exact hstop m y hy hp
end
section
variable {P : Program} {rd : Option Nat} {o : Oper} {env : Env} {σ : MS} {K : MV → MS → Prop}
end
theorem get_box {A R : MS} {x x' y : MObj} : ((A ++ [x, y]) ++ R)[(A ++ [x']).length]? = some y := by rw [List.length_append, List.append_assoc, getElem?_own]; rfl
section
variable {P : Program} {rd : Option Nat} {o : Oper} {env : Env} {σ σ2 : MS} {K : MV → MS → Prop}
theorem op_viewTo {x y : MV} (h : OpWp P rd o env σ fun v σ' => v = x ∧ σ' = σ2) (hs : Sub x y) (hk : K y σ2) : OpWp P rd o env σ K := by
  intro g w a F hF hr hop
  refine Oper.wpIn_mono ?_ (h g w a F hF hr hop)
  rintro a' w' ⟨v, e, x', σ', g', ⟨rfl, rfl⟩, hrel, hrd, hle⟩
  exact ⟨v, e, y, _, g', hk, hrel, hs _ _ _ hrd, hle⟩
variable {N n : Nat} {Q : Exit → Env → MS → Prop}
end
theorem mwp_cellrowAt {P : Program} {rd : Option Nat} {N n : Nat} {c : Code} {Q : Exit → Env → MS → Prop} {env : Env} {S L L' : MS} (k i ty sz : Nat) {m : Nat} {l : List MV} (hk : L[k]? = some (.cells l)) (hi : l[i]? = some .lst0) (hN : N ≤ S.length) (hm : L.length = m) (hL : L.set k (.cells (l.set i (.lst (some (S.length + m)) sz []))) ++ [.row ty sz 0] = L') (h : mwp P rd N n c Q env (S ++ L')) : mwp P rd N n c Q env (S ++ L) := by
  subst hm hL
  refine mwp_ghost (fun g w tmps hr he => ?_) h
  obtain ⟨r1, l1, d1⟩ := tok_new hr ty sz
  have hlen : (S ++ L).length = S.length + L.length := List.length_append
  refine ⟨_, ?_, he.mono l1, l1.toN N, fun F hF => hF.mono (l1.toN N)⟩
  have hlt := (List.getElem?_eq_some_iff.1 hk).1
  have e : S ++ (L.set k (.cells (l.set i (.lst (some (S.length + L.length)) sz []))) ++ [.row ty sz 0]) = ((S ++ L) ++ [MObj.row ty sz 0]).set (S.length + k) (.cells (l.set i (.lst (some (S.length + L.length)) sz []))) := by
    rw [List.append_assoc, set_own, List.set_append_left _ _ hlt]
  rw [e]
  refine r1.recell (l := l) (by rw [List.append_assoc, getElem?_own, List.getElem?_append_left hlt]; exact hk) fun us hus => ?_
  obtain ⟨u, hu, hrd⟩ := hus.get hi
  have hs := hus.set i (x := .lst (some (S.length + L.length)) sz []) (u := u) (by rw [hrd.inv_lst0, ← hlen]; exact d1)
  obtain ⟨hul, hue⟩ := List.getElem?_eq_some_iff.1 hu
  rwa [show us.set i u = us by rw [← hue]; exact List.set_getElem_self hul] at hs
end Go.MV
end
section
set_option linter.unusedVariables false
set_option linter.unusedSimpArgs false
set_option maxRecDepth 20000
set_option maxHeartbeats 400000
namespace Go.Proofs.YthkikhggmbiffaaGreat
open Go Go.MV
theorem not_dec {p : Prop} [Decidable p] (h : (!decide p) = false) : p := by simpa using h
theorem two_of {ins : List Sch} (h : partsF 5 = (ins.length : Int)) : ∃ x y, ins = [x, y] := by
 have h2 : ins.length = 2 := by
  have : partsF 5 = 2 := by decide
  omega
 match ins, h2 with
 | [x, y], _ => exact ⟨x, y, rfl⟩
theorem xEqual_spec (a b : List Bs) (S : MS) : MCalls Tryz.prog 88 [.lst none 1 (a.map encX), .lst none 1 (b.map encX)] S fun v σ' => v = .bool (decide (a = b)) ∧ σ' = S := by
 refine mcalls_body Tryz.func88 rfl Tryz.ntmps88 (Nat.le_of_ble_eq_true rfl) ?_
 refine mwp_len (t := 0) rfl fun hlen => ?_
 rw [List.length_map] at hlen
 refine mwp_seq <| qR rfl <| qA rfl rfl rfl <| qN <| mwp_seq <| mwp_seq <| qR rfl <| qM rfl rfl rfl <| qE rfl rfl Tryz.underlying26 rfl <| qM rfl rfl rfl <| qE rfl rfl Tryz.underlying26 rfl <| qC rfl rfl rfl rfl rfl <| qN ?_
 refine mwp_cond_split rfl (fun h10 => ?_) (fun h10 => ?_)
 ·
  refine mwp_seq <| qR rfl <| qA rfl rfl rfl <| qN <| mwp_ret ?_
  exact ret_tmp (.inr rfl) Tryz.results88 rfl (.of_eq (by congr 1; symm; rw [decide_eq_false_iff_not]; intro e; subst e; simp at h10)) (.bool _) ⟨rfl, rfl⟩
 ·
  have hab : a.length = b.length := by simp at h10; omega
  refine mwp_skip <| mwp_seq <| mwp_seq <| qR rfl <| qM rfl rfl rfl <| qE rfl rfl Tryz.underlying26 rfl <| qM rfl rfl rfl <| qN <| mwp_block ?_
  refine mwp_loopK (α := Nat) [(0, _), (1, _), (12, _)] (fun i => [(13, .int .i64 (i : Int))]) (fun i => []) (fun i => i ≤ a.length ∧ a.take i = b.take i) (fun i => a.length - i) (0) (.keep rfl (.keep rfl (.keep rfl (.nil)))) (.keep rfl (.nil)) (⟨by omega, rfl⟩) (rfl) ?_
  rintro i ⟨hi, heq⟩
  refine mwp_seq <| qR rfl <| qC rfl rfl rfl rfl rfl <| qN <| mwp_seq ?_
  refine mwp_cond_split rfl (fun h14 => ?_) (fun h14 => ?_)
  ·
   have hlt : i < a.length := by simpa using h14
   obtain ⟨x, hs⟩ : ∃ q_, a[i]? = some q_ := ⟨_, List.getElem?_eq_getElem hlt⟩
   obtain ⟨y, hs2⟩ : ∃ s, b[i]? = some s := ⟨_, List.getElem?_eq_getElem (by omega)⟩
   refine mwp_skip <| mwp_seq <| mwp_block <| mwp_seq <| qR rfl <| qM rfl rfl rfl <| qA rfl rfl rfl <| qN <| mwp_seq ?_
   refine mwp_draw [] [_] mo (by decide) rfl rfl rfl rfl ?_
   refine dO rfl rfl rfl (op_move rfl rfl ⟨rfl, rfl⟩) <| dO rfl rfl rfl (op_move rfl rfl ⟨rfl, rfl⟩) <| dO rfl rfl rfl (op_indexAddr rfl Tryz.underlying26 sz9 (by decide) rfl rfl rfl (get_map hs) ⟨rfl, rfl⟩) ?_
   refine dO rfl rfl rfl (op_load_sptr rfl rfl ta9 rfl ⟨rfl, rfl⟩) <| dO rfl rfl rfl (op_move rfl rfl ⟨rfl, rfl⟩) <| dO rfl rfl rfl (op_move rfl rfl ⟨rfl, rfl⟩) <| dO rfl rfl rfl (op_indexAddr rfl Tryz.underlying26 sz9 (by decide) rfl rfl rfl (get_map hs2) ⟨rfl, rfl⟩) ?_
   refine dO rfl rfl rfl (op_load_sptr rfl rfl ta9 rfl ⟨rfl, rfl⟩) <| dO rfl rfl rfl (op_strcmp rfl rfl rfl rfl ⟨rfl, rfl⟩) <| dOps_nil ?_
   refine mwp_cond_split rfl (fun h24 => ?_) (fun h24 => ?_)
   ·
    refine mwp_seq <| qR rfl <| qA rfl rfl rfl <| qN <| mwp_ret ?_
    exact ret_tmp (.inr rfl) Tryz.results88 rfl (.of_eq (by congr 1; symm; rw [decide_eq_false_iff_not]; intro e; subst e; rw [hs2] at hs; injection hs with hs; subst hs; simp at h24)) (.bool _) ⟨rfl, rfl⟩
   ·
    refine mwp_skip <| qR rfl <| qO rfl <| op_arith rfl rfl rfl rfl <| qM rfl rfl rfl <| qN ?_
    refine ⟨i + 1, by omega, ⟨by omega, ?_⟩, rfl, (.keep rfl (.keep rfl (.keep rfl (.nil)))), (.eq rfl (int_succ hlt hlen) (.nil))⟩
    rw [List.take_add_one, List.take_add_one, hs, hs2, heq]
    simp at h24
    rw [h24]
  ·
   have hge : i = a.length := by simp at h14; omega
   refine mwp_exit <| mwp_seq <| qR rfl <| qA rfl rfl rfl <| qN <| mwp_ret ?_
   exact ret_tmp (.inr rfl) Tryz.results88 rfl (.of_eq (by congr 1; symm; rw [decide_eq_true_iff]; rw [hge, List.take_length, hab, List.take_length] at heq; exact heq)) (.bool _) ⟨rfl, rfl⟩
theorem cEqualF_spec (a b : List (List Tk)) (S : MS) : MCalls Tryz.prog 101 [.lst none 1 (a.map encC), .lst none 1 (b.map encC), .fn (.func 90) [] []] S fun v σ' => v = .bool (decide (a = b)) ∧ σ' = S := by
 refine mcalls_body Tryz.func101 rfl Tryz.ntmps101 (Nat.le_of_ble_eq_true rfl) ?_
 refine mwp_len (t := 0) rfl fun hlen => ?_
 rw [List.length_map] at hlen
 refine mwp_seq <| qR rfl <| qA rfl rfl rfl <| qN <| mwp_seq <| mwp_seq <| qR rfl <| qM rfl rfl rfl <| qE rfl rfl Tryz.underlying27 rfl <| qM rfl rfl rfl <| qE rfl rfl Tryz.underlying27 rfl <| qC rfl rfl rfl rfl rfl <| qN ?_
 refine mwp_cond_split rfl (fun h14 => ?_) (fun h14 => ?_)
 ·
  refine mwp_seq <| qR rfl <| qA rfl rfl rfl <| qN <| mwp_ret ?_
  exact ret_tmp (.inr rfl) Tryz.results101 rfl (.of_eq (by congr 1; symm; rw [decide_eq_false_iff_not]; intro e; subst e; simp at h14)) (.bool _) ⟨rfl, rfl⟩
 ·
  have hab : a.length = b.length := by simp at h14; omega
  refine mwp_skip <| mwp_seq <| mwp_seq <| qR rfl <| qM rfl rfl rfl <| qE rfl rfl Tryz.underlying27 rfl <| qM rfl rfl rfl <| qN <| mwp_block ?_
  refine mwp_loopK (α := Nat) [(1, _), (2, _), (15, _), (16, _)] (fun i => [(17, .int .i64 (i : Int))]) (fun i => []) (fun i => i ≤ a.length ∧ a.take i = b.take i) (fun i => a.length - i) (0) (.keep rfl (.keep rfl (.keep rfl (.keep rfl (.nil))))) (.keep rfl (.nil)) (⟨by omega, rfl⟩) (rfl) ?_
  rintro i ⟨hi, heq⟩
  refine mwp_seq <| qR rfl <| qC rfl rfl rfl rfl rfl <| qN <| mwp_seq ?_
  refine mwp_cond_split rfl (fun h18 => ?_) (fun h18 => ?_)
  ·
   have hlt : i < a.length := by simpa using h18
   obtain ⟨x, hs⟩ : ∃ q_, a[i]? = some q_ := ⟨_, List.getElem?_eq_getElem hlt⟩
   obtain ⟨y, hs2⟩ : ∃ s, b[i]? = some s := ⟨_, List.getElem?_eq_getElem (by omega)⟩
   refine mwp_skip <| mwp_seq <| mwp_block <| mwp_seq <| qR rfl <| qM rfl rfl rfl <| qO rfl <| op_indexAddr rfl Tryz.underlying27 sz70 (by decide) rfl rfl rfl (get_map hs) ?_
   refine qO rfl <| op_load_sptr rfl rfl ta70 rfl <| qA rfl rfl rfl <| qA rfl rfl rfl <| qN <| mwp_seq <| qR rfl <| qM rfl rfl rfl <| qM rfl rfl rfl <| qO rfl <| op_indexAddr rfl Tryz.underlying27 sz70 (by decide) rfl rfl rfl (get_map hs2) ?_
   refine qO rfl <| op_load_sptr rfl rfl ta70 rfl <| qA rfl rfl rfl <| qN <| mwp_seq <| qR rfl <| qM rfl rfl rfl <| qM rfl rfl rfl <| qM rfl rfl rfl ?_
   refine wOps_op rfl (op_call rfl rfl rfl co90 ((clkSame_spec x y _).mono ?_))
   rintro _ _ ⟨rfl, rfl⟩
   refine qO rfl <| op_not rfl rfl <| qN ?_
   refine mwp_cond_split rfl (fun h30 => ?_) (fun h30 => ?_)
   ·
    refine mwp_seq <| qR rfl <| qA rfl rfl rfl <| qN <| mwp_ret ?_
    exact ret_tmp (.inr rfl) Tryz.results101 rfl (.of_eq (by congr 1; symm; rw [decide_eq_false_iff_not]; intro e; subst e; rw [hs2] at hs; injection hs with hs; rw [hs] at h30; simp at h30)) (.bool _) ⟨rfl, rfl⟩
   ·
    refine mwp_skip <| qR rfl <| qO rfl <| op_arith rfl rfl rfl rfl <| qM rfl rfl rfl <| qN ?_
    refine ⟨i + 1, by omega, ⟨by omega, ?_⟩, rfl, (.keep rfl (.keep rfl (.keep rfl (.keep rfl (.nil))))), (.eq rfl (int_succ hlt hlen) (.nil))⟩
    rw [List.take_add_one, List.take_add_one, hs, hs2, heq, not_dec h30]
  ·
   have hge : i = a.length := by simp at h18; omega
   refine mwp_exit <| mwp_seq <| qR rfl <| qA rfl rfl rfl <| qN <| mwp_ret ?_
   exact ret_tmp (.inr rfl) Tryz.results101 rfl (.of_eq (by congr 1; symm; rw [decide_eq_true_iff]; rw [hge, List.take_length, hab, List.take_length] at heq; exact heq)) (.bool _) ⟨rfl, rfl⟩
theorem cSame_spec (a b : List (List Tk)) (S : MS) : MCalls Tryz.prog 89 [.lst none 1 (a.map encC), .lst none 1 (b.map encC), .fn (.func 90) [] []] S fun v σ' => v = .bool (decide (a = b)) ∧ σ' = S := by
 refine mcalls_body Tryz.func89 rfl Tryz.ntmps89 (Nat.le_of_ble_eq_true rfl) ?_
 refine mwp_seq <| qR rfl <| qA rfl rfl rfl <| qN <| mwp_seq <| qR rfl <| qM rfl rfl rfl <| qM rfl rfl rfl <| qM rfl rfl rfl ?_
 refine wOps_op rfl (op_call rfl rfl rfl co101 ((cEqualF_spec a b _).mono ?_))
 rintro _ _ ⟨rfl, rfl⟩
 refine qA rfl rfl rfl <| qN <| mwp_ret ?_
 exact ret_tmp (.inr rfl) Tryz.results89 rfl (.of_eq (rfl)) (.bool _) ⟨rfl, rfl⟩
theorem vEqualF_spec (a b : List Val) (ih : ∀ x ∈ a, ∀ (y : Val) (S : MS), MCalls Tryz.prog 79 [encV x, encV y] S fun v σ' => v = .bool (decide (x = y)) ∧ σ' = S) (S : MS) : MCalls Tryz.prog 103 [.lst none 5 (encVs a), .lst none 5 (encVs b), .fn (.func 79) [] []] S fun v σ' => v = .bool (decide (a = b)) ∧ σ' = S := by
 refine mcalls_body Tryz.func103 rfl Tryz.ntmps103 (Nat.le_of_ble_eq_true rfl) ?_
 refine mwp_len (t := 0) rfl fun hlen => ?_
 rw [encVs_length] at hlen
 refine mwp_seq <| qR rfl <| qA rfl rfl rfl <| qN <| mwp_seq <| mwp_seq <| qR rfl <| qM rfl rfl rfl <| qE rfl rfl Tryz.underlying28 rfl <| qM rfl rfl rfl <| qE rfl rfl Tryz.underlying28 rfl <| qC rfl rfl rfl rfl rfl <| qN ?_
 refine mwp_cond_split rfl (fun h14 => ?_) (fun h14 => ?_)
 ·
  rw [encVs_length, encVs_length] at h14
  refine mwp_seq <| qR rfl <| qA rfl rfl rfl <| qN <| mwp_ret ?_
  exact ret_tmp (.inr rfl) Tryz.results103 rfl (.of_eq (by congr 1; symm; rw [decide_eq_false_iff_not]; intro e; subst e; simp at h14)) (.bool _) ⟨rfl, rfl⟩
 ·
  rw [encVs_length, encVs_length] at h14
  have hab : a.length = b.length := by simp at h14; omega
  refine mwp_skip <| mwp_seq <| mwp_seq <| qR rfl <| qM rfl rfl rfl <| qE rfl rfl Tryz.underlying28 rfl <| qM rfl rfl rfl <| qN <| mwp_block ?_
  refine mwp_loopKJ (α := Nat) [(1, _), (2, _), (15, _), (16, _)] (fun i => [(17, .int .i64 (i : Int))]) (fun i => []) (fun i => i ≤ a.length ∧ a.take i = b.take i) (fun i => a.length - i) (0) (Nat.le_refl _) (.keep rfl (.keep rfl (.keep rfl (.keep rfl (.nil))))) (.keep rfl (.nil)) (⟨by omega, rfl⟩) (rfl) ?_
  rintro i ⟨hi, heq⟩
  refine mwp_seq <| qR rfl <| qC rfl rfl rfl rfl rfl <| qN <| mwp_seq ?_
  refine mwp_cond_split rfl (fun h18 => ?_) (fun h18 => ?_)
  ·
   rw [encVs_length] at h18
   have hlt : i < a.length := by simpa using h18
   obtain ⟨⟨n1, m1, s1, c1, w1⟩, hs⟩ : ∃ s, a[i]? = some s := ⟨_, List.getElem?_eq_getElem hlt⟩
   obtain ⟨⟨n2, m2, s2, c2, w2⟩, hs2⟩ : ∃ s, b[i]? = some s := ⟨_, List.getElem?_eq_getElem (by omega)⟩
   refine mwp_skip <| mwp_seq <| mwp_block <| mwp_seq <| qR rfl <| qM rfl rfl rfl <| qO rfl <| op_indexAddr rfl Tryz.underlying28 sz30 (by decide) rfl rfl rfl (encVs_get hs) ?_
   refine qO rfl <| op_load_sptr rfl rfl ta30 rfl <| qO rfl <| op_alloc' rfl zm30 rfl rfl <| qA rfl rfl rfl <| qO rfl <| op_store' rfl rfl rfl rfl sz30 rfl rfl (Nat.le_of_ble_eq_true rfl) rfl <| qN <| mwp_seq <| qR rfl <| qM rfl rfl rfl <| qM rfl rfl rfl <| qO rfl <| op_indexAddr rfl Tryz.underlying28 sz30 (by decide) rfl rfl rfl (encVs_get hs2) ?_
   refine qO rfl <| op_load_sptr rfl rfl ta30 rfl <| qO rfl <| op_alloc' rfl zm30 rfl rfl <| qO rfl <| op_store' rfl rfl rfl rfl sz30 rfl rfl (Nat.le_of_ble_eq_true rfl) rfl <| qN <| mwp_seq <| qR rfl <| qM rfl rfl rfl <| qL rfl rfl rfl rfl ta30 rfl <| qL rfl rfl rfl rfl ta30 rfl ?_
   refine wOps_op rfl (op_call rfl rfl rfl co79 ((ih _ (List.mem_of_getElem? hs) (.mk n2 m2 s2 c2 w2) _).mono ?_))
   rintro _ _ ⟨rfl, rfl⟩
   refine qO rfl <| op_not rfl rfl <| qN ?_
   refine mwp_cond_split rfl (fun h30 => ?_) (fun h30 => ?_)
   ·
    refine mwp_seq <| qR rfl <| qA rfl rfl rfl <| qN <| mwp_ret ?_
    exact ret_tmp (.inr rfl) Tryz.results103 rfl (.of_eq (by congr 1; symm; rw [decide_eq_false_iff_not]; intro e; subst e; rw [hs2] at hs; injection hs with hs; rw [hs] at h30; simp at h30)) (.bool _) ⟨rfl, rfl⟩
   ·
    refine mwp_skip <| qR rfl <| qO rfl <| op_arith rfl rfl rfl rfl <| qM rfl rfl rfl <| qN ?_
    refine ⟨i + 1, _, by omega, ⟨by omega, ?_⟩, rfl, .nil, (.old rfl rfl (.old rfl rfl (.old rfl rfl (.old rfl rfl (.nil))))), (.new' rfl (int_succ hlt hlen) (.int _ _) (.nil))⟩
    rw [List.take_add_one, List.take_add_one, hs, hs2, heq, not_dec h30]
  ·
   rw [encVs_length] at h18
   have hge : i = a.length := by simp at h18; omega
   refine mwp_exit <| mwp_seq <| qR rfl <| qA rfl rfl rfl <| qN <| mwp_ret ?_
   exact ret_tmp (.inr rfl) Tryz.results103 rfl (.of_eq (by congr 1; symm; rw [decide_eq_true_iff]; rw [hge, List.take_length, hab, List.take_length] at heq; exact heq)) (.bool _) ⟨rfl, rfl⟩
theorem vsSame_spec (a b : List Val) (ih : ∀ x ∈ a, ∀ (y : Val) (S : MS), MCalls Tryz.prog 79 [encV x, encV y] S fun v σ' => v = .bool (decide (x = y)) ∧ σ' = S) (S : MS) : MCalls Tryz.prog 91 [.lst none 5 (encVs a), .lst none 5 (encVs b), .fn (.func 79) [] []] S fun v σ' => v = .bool (decide (a = b)) ∧ σ' = S := by
 refine mcalls_body Tryz.func91 rfl Tryz.ntmps91 (Nat.le_of_ble_eq_true rfl) ?_
 refine mwp_seq <| qR rfl <| qA rfl rfl rfl <| qN <| mwp_seq <| qR rfl <| qM rfl rfl rfl <| qM rfl rfl rfl <| qM rfl rfl rfl ?_
 refine wOps_op rfl (op_call rfl rfl rfl co103 ((vEqualF_spec a b ih _).mono ?_))
 rintro _ _ ⟨rfl, rfl⟩
 refine qA rfl rfl rfl <| qN <| mwp_ret ?_
 exact ret_tmp (.inr rfl) Tryz.results91 rfl (.of_eq (rfl)) (.bool _) ⟨rfl, rfl⟩
theorem vSame_spec (d : Nat) : ∀ (a b : Val), vdepth a ≤ d → ∀ S : MS, MCalls Tryz.prog 79 [encV a, encV b] S fun v σ' => v = .bool (decide (a = b)) ∧ σ' = S := by
 induction d with
 | zero => rintro ⟨n, m, s, c, w⟩ b h; simp [vdepth] at h
 | succ d ih =>
 rintro ⟨n, m, s, c, w⟩ ⟨n2, m2, s2, c2, w2⟩ hd S
 have hmem : ∀ x ∈ w, vdepth x ≤ d := fun x hx => by have := vdepth_mem hx; rw [vdepth] at hd; omega
 refine mcalls_body Tryz.func79 rfl Tryz.ntmps79 (Nat.le_of_ble_eq_true rfl) ?_
 refine mwp_seq <| qR rfl <| qB rfl rfl rfl rfl rfl <| qB rfl rfl rfl rfl rfl <| qA rfl rfl rfl <| qN <| mwp_seq <| qR rfl <| qF rfl rfl rfl fo30_0 <| qL rfl rfl rfl rfl ta25 rfl <| qF rfl rfl rfl fo30_0 <| qL rfl rfl rfl rfl ta25 rfl <| qC rfl rfl rfl rfl rfl <| qM rfl rfl rfl ?_
 refine wOps_case (fun h10 => ?_) (fun h10 => ?_)
 ·
  refine qF rfl rfl rfl fo30_1 <| qL rfl rfl rfl rfl ta25 rfl <| qF rfl rfl rfl fo30_1 <| qL rfl rfl rfl rfl ta25 rfl <| qC rfl rfl rfl rfl rfl <| qP rfl rfl rfl rfl <| qM rfl rfl rfl ?_
  refine wOps_case (fun h17 => ?_) (fun h17 => ?_)
  ·
   refine qF rfl rfl rfl fo30_2 <| qL rfl rfl rfl rfl ta26 rfl <| qF rfl rfl rfl fo30_2 <| qL rfl rfl rfl rfl ta26 rfl ?_
   refine wOps_op rfl (op_call rfl rfl rfl co88 ((xEqual_spec s s2 _).mono ?_))
   rintro _ _ ⟨rfl, rfl⟩
   refine qP rfl rfl rfl rfl <| qM rfl rfl rfl ?_
   refine wOps_case (fun h24 => ?_) (fun h24 => ?_)
   ·
    refine qF rfl rfl rfl fo30_3 <| qL rfl rfl rfl rfl ta27 rfl <| qF rfl rfl rfl fo30_3 <| qL rfl rfl rfl rfl ta27 rfl ?_
    refine wOps_op rfl (op_call rfl rfl rfl co89 ((cSame_spec c c2 _).mono ?_))
    rintro _ _ ⟨rfl, rfl⟩
    refine qP rfl rfl rfl rfl <| qM rfl rfl rfl ?_
    refine wOps_case (fun h31 => ?_) (fun h31 => ?_)
    ·
     refine qF rfl rfl rfl fo30_4 <| qL rfl rfl rfl rfl ta28 rfl <| qF rfl rfl rfl fo30_4 <| qL rfl rfl rfl rfl ta28 rfl ?_
     refine wOps_op rfl (op_call rfl rfl rfl co91 ((vsSame_spec w w2 (fun x hx y S => ih x y (hmem x hx) S) _).mono ?_))
     rintro _ _ ⟨rfl, rfl⟩
     refine qP rfl rfl rfl rfl <| qA rfl rfl rfl <| qN <| mwp_ret ?_
     exact ret_tmp (.inr rfl) Tryz.results79 rfl (.of_eq (by congr 1; rw [Bool.eq_iff_iff]; simp_all)) (.bool _) ⟨rfl, rfl⟩
    ·
     refine qS rfl <| qS rfl <| qS rfl <| qS rfl <| qS rfl <| qP rfl rfl rfl rfl <| qA rfl rfl rfl <| qN <| mwp_ret ?_
     exact ret_tmp (.inr rfl) Tryz.results79 rfl (.of_eq (by congr 1; rw [Bool.eq_iff_iff]; simp_all)) (.bool _) ⟨rfl, rfl⟩
   ·
    refine qS rfl <| qS rfl <| qS rfl <| qS rfl <| qS rfl <| qP rfl rfl rfl rfl <| qM rfl rfl rfl <| qS rfl <| qS rfl <| qS rfl <| qS rfl <| qS rfl <| qP rfl rfl rfl rfl <| qA rfl rfl rfl <| qN <| mwp_ret ?_
    exact ret_tmp (.inr rfl) Tryz.results79 rfl (.of_eq (by congr 1; rw [Bool.eq_iff_iff]; simp_all)) (.bool _) ⟨rfl, rfl⟩
  ·
   refine qS rfl <| qS rfl <| qS rfl <| qS rfl <| qS rfl <| qP rfl rfl rfl rfl <| qM rfl rfl rfl <| qS rfl <| qS rfl <| qS rfl <| qS rfl <| qS rfl <| qP rfl rfl rfl rfl <| qM rfl rfl rfl <| qS rfl <| qS rfl <| qS rfl <| qS rfl <| qS rfl <| qP rfl rfl rfl rfl <| qA rfl rfl rfl <| qN <| mwp_ret ?_
   exact ret_tmp (.inr rfl) Tryz.results79 rfl (.of_eq (by congr 1; rw [Bool.eq_iff_iff]; simp_all)) (.bool _) ⟨rfl, rfl⟩
 ·
  refine qS rfl <| qS rfl <| qS rfl <| qS rfl <| qS rfl <| qP rfl rfl rfl rfl <| qM rfl rfl rfl <| qS rfl <| qS rfl <| qS rfl <| qS rfl <| qS rfl <| qP rfl rfl rfl rfl <| qM rfl rfl rfl <| qS rfl <| qS rfl <| qS rfl <| qS rfl <| qS rfl <| qP rfl rfl rfl rfl <| qM rfl rfl rfl <| qS rfl <| qS rfl <| qS rfl ?_
  refine qS rfl <| qS rfl <| qP rfl rfl rfl rfl <| qA rfl rfl rfl <| qN <| mwp_ret ?_
  exact ret_tmp (.inr rfl) Tryz.results79 rfl (.of_eq (by congr 1; rw [Bool.eq_iff_iff]; simp_all)) (.bool _) ⟨rfl, rfl⟩
theorem valSame_spec (a b : Val) (S : MS) : MCalls Tryz.prog 79 [encV a, encV b] S fun v σ' => v = .bool (decide (a = b)) ∧ σ' = S := vSame_spec _ a b (Nat.le_refl _) S
theorem bottom_spec (d : Nat) : ∀ (s : Sch), isF d s = true → ∀ S : MS, MCalls Tryz.prog 92 [encS s] S fun v σ' => v = encV (bottomF s) ∧ σ' = S := by
 induction d with
 | zero => intro s h; simp [isF] at h
 | succ d ih =>
 rintro ⟨k, ins⟩ hd S
 rw [isF] at hd
 simp only [Bool.and_eq_true, List.all_eq_true, beq_iff_eq] at hd
 refine mcalls_body Tryz.func92 rfl Tryz.ntmps92 (Nat.le_of_ble_eq_true rfl) ?_
 refine mwp_seq <| qR rfl <| qB rfl rfl rfl rfl rfl <| qO rfl <| op_alloc' rfl zm30 rfl rfl <| qN <| mwp_seq <| qR rfl <| qO rfl <| op_alloc' rfl zm30 rfl rfl <| qN <| mwp_seq <| mwp_seq <| qR rfl <| qF rfl rfl rfl fo24_0 <| qL rfl rfl rfl rfl ta3 rfl <| qC rfl rfl rfl rfl rfl <| qN ?_
 refine mwp_cond_split rfl (fun h6 => ?_) (fun h6 => ?_)
 ·
  have hk : k = 5 := by simpa using h6
  subst hk
  obtain ⟨⟨k1, i1⟩, ⟨k2, i2⟩, rfl⟩ := two_of hd.1
  obtain ⟨⟨n1, m1, s1, c1, w1⟩, e1⟩ : ∃ v, bottomF (.mk k1 i1) = v := ⟨_, rfl⟩
  obtain ⟨⟨n2, m2, s2, c2, w2⟩, e2⟩ : ∃ v, bottomF (.mk k2 i2) = v := ⟨_, rfl⟩
  have ih1 := ih (.mk k1 i1) (hd.2 _ (by simp))
  have ih2 := ih (.mk k2 i2) (hd.2 _ (by simp))
  simp only [e1] at ih1
  simp only [e2] at ih2
  have hbot : bottomF (.mk 5 [.mk k1 i1, .mk k2 i2]) = .mk 0 0 [] [] [.mk n1 m1 s1 c1 w1, .mk n2 m2 s2 c2 w2] := by rw [bottomF, if_pos rfl, bottomL, bottomL, bottomL, e1, e2]
  refine mwp_draw [12] [_, S ++ [.cells (encS (.mk 5 [.mk k1 i1, .mk k2 i2])).cells, .cells [.int .u64 0, .int .u64 0, .lst0, .lst0, .lst0], .cells [.int .u64 0, .int .u64 0, .lst0, .lst0, .lst none 5 [encV (.mk n1 m1 s1 c1 w1), encV (.mk n2 m2 s2 c2 w2)]]]] mo (by decide) rfl rfl rfl rfl ?_
  refine dO rfl rfl rfl (op_fieldAddr_ref rfl rfl fo24_1 ⟨rfl, rfl⟩) <| dO rfl rfl rfl (op_load' rfl rfl rfl ta22 rfl ⟨rfl, rfl⟩) <| dO rfl rfl rfl (op_indexAddr rfl Tryz.underlying22 sz24 (by decide) rfl rfl rfl (show _ = some (encS (.mk k1 i1)) from rfl) ⟨rfl, rfl⟩) ?_
  refine dO rfl rfl rfl (op_load_sptr rfl rfl ta24 rfl ⟨rfl, rfl⟩) <| dOps_op rfl rfl (.cons (op_call rfl rfl rfl co92 (ih1 _)) .nil) <| dO rfl rfl rfl (op_fieldAddr_ref rfl rfl fo24_1 ⟨rfl, rfl⟩) <| dO rfl rfl rfl (op_load' rfl rfl rfl ta22 rfl ⟨rfl, rfl⟩) <| dO rfl rfl rfl (op_indexAddr rfl Tryz.underlying22 sz24 (by decide) rfl rfl rfl (show _ = some (encS (.mk k2 i2)) from rfl) ⟨rfl, rfl⟩) ?_
  refine dO rfl rfl rfl (op_load_sptr rfl rfl ta24 rfl ⟨rfl, rfl⟩) <| dOps_op rfl rfl (.cons (op_call rfl rfl rfl co92 (ih2 _)) .nil) <| dO rfl rfl rfl (op_buildSlice rfl Tryz.underlying28 el30 rfl rfl (by decide) (by decide) rfl rfl ⟨rfl, rfl⟩) ?_
  refine dO rfl rfl rfl (op_fieldAddr_ref rfl rfl fo30_4 ⟨rfl, rfl⟩) <| dOps_eff rfl rfl rfl rfl (op_store' rfl rfl rfl rfl sz28 rfl rfl (Nat.le_of_ble_eq_true rfl) rfl ⟨rfl, rfl⟩) <| dOps_nil <| mwp_seq <| qR rfl <| qL rfl rfl rfl rfl ta30 rfl <| qO rfl <| op_store' rfl rfl rfl rfl sz30 rfl rfl (Nat.le_of_ble_eq_true rfl) rfl <| qN <| mwp_ret ?_
  rw [hbot]
  exact ret_cell (.inr rfl) Tryz.results92 rfl rfl ta30 rfl (by first | exact (.agg (.cons (.refl _) (.cons (.refl _) (.cons (.nil _) (.cons (.nil _) (.cons (.nil _) .nil)))))) | exact (.agg (.cons (.refl _) (.cons (.refl _) (.cons (.nil _) (.cons (.nil _) (.cons (.refl _) .nil))))))) (cl_encV _ _) ⟨rfl, rfl⟩
 ·
  have hk : ¬ k = 5 := by simpa using h6
  have hbot : bottomF (.mk k ins) = noV := by simp [bottomF, hk]
  refine mwp_skip <| mwp_seq <| qR rfl <| qL rfl rfl rfl rfl ta30 rfl <| qO rfl <| op_store' rfl rfl rfl rfl sz30 rfl rfl (Nat.le_of_ble_eq_true rfl) rfl <| qN <| mwp_ret ?_
  rw [hbot]
  exact ret_cell (.inr rfl) Tryz.results92 rfl rfl ta30 rfl (by first | exact (.agg (.cons (.refl _) (.cons (.refl _) (.cons (.nil _) (.cons (.nil _) (.cons (.nil _) .nil)))))) | exact (.agg (.cons (.refl _) (.cons (.refl _) (.cons (.nil _) (.cons (.nil _) (.cons (.refl _) .nil))))))) (cl_encV _ _) ⟨rfl, rfl⟩
theorem Bottom_spec (s : Sch) (S : MS) : MCalls Tryz.prog 80 [encS s] S fun v σ' => v = encV (BottomF s) ∧ σ' = S := by
 obtain ⟨k, ins⟩ := s
 refine mcalls_body Tryz.func80 rfl Tryz.ntmps80 (Nat.le_of_ble_eq_true rfl) ?_
 refine mwp_seq <| qR rfl <| qB rfl rfl rfl rfl rfl <| qO rfl <| op_alloc' rfl zm30 rfl rfl <| qN <| mwp_seq <| mwp_seq <| qR rfl <| qL rfl rfl rfl rfl ta24 rfl ?_
 refine wOps_op rfl (op_call rfl rfl rfl co23 ((Is_spec (.mk k ins) _).mono ?_))
 rintro _ _ ⟨rfl, rfl⟩
 refine qO rfl <| op_not rfl rfl <| qN ?_
 refine mwp_cond_split rfl (fun h5 => ?_) (fun h5 => ?_)
 ·
  have hb : BottomF (.mk k ins) = noV := by unfold BottomF; rw [if_neg (by simpa using h5)]
  refine mwp_seq <| qR rfl <| qO rfl <| op_build rfl Tryz.underlying30 zm30 .nil (by kernel_rfl) ?_
  refine qO rfl <| op_store' rfl rfl rfl rfl sz30 rfl rfl (Nat.le_of_ble_eq_true rfl) rfl <| qN <| mwp_ret ?_
  rw [hb]
  exact ret_cell (y := encV (noV)) (.inr rfl) Tryz.results80 rfl rfl ta30 rfl (.agg (.cons (.refl _) (.cons (.refl _) (.cons (.nil _) (.cons (.nil _) (.cons (.nil _) .nil)))))) (cl_encV _ _) ⟨rfl, rfl⟩
 ·
  have his : isF 16 (.mk k ins) = true := by simpa using h5
  obtain ⟨⟨n1, m1, s1, c1, w1⟩, e1⟩ : ∃ v, bottomF (.mk k ins) = v := ⟨_, rfl⟩
  have bs := bottom_spec 16 (.mk k ins) his
  simp only [e1] at bs
  have hb : BottomF (.mk k ins) = .mk n1 m1 s1 c1 w1 := by unfold BottomF; rw [if_pos his, e1]
  refine mwp_skip <| mwp_seq <| qR rfl <| qL rfl rfl rfl rfl ta24 rfl ?_
  refine wOps_op rfl (op_call rfl rfl rfl co92 ((bs _).mono ?_))
  rintro _ _ ⟨rfl, rfl⟩
  refine qO rfl <| op_store' rfl rfl rfl rfl sz30 rfl rfl (Nat.le_of_ble_eq_true rfl) rfl <| qN <| mwp_ret ?_
  rw [hb]
  exact ret_cell (y := encV (.mk n1 m1 s1 c1 w1)) (.inr rfl) Tryz.results80 rfl rfl ta30 rfl (.refl _) (cl_encV _ _) ⟨rfl, rfl⟩
theorem None_spec (s : Sch) (x : Val) (S : MS) : MCalls Tryz.prog 63 [encS s, encV x] S fun v σ' => v = .bool (noneF s x) ∧ σ' = S := by
 obtain ⟨k, ins⟩ := s
 obtain ⟨n, m, s, c, w⟩ := x
 refine mcalls_body Tryz.func63 rfl Tryz.ntmps63 (Nat.le_of_ble_eq_true rfl) ?_
 refine mwp_seq <| qR rfl <| qB rfl rfl rfl rfl rfl <| qB rfl rfl rfl rfl rfl <| qA rfl rfl rfl <| qN <| mwp_seq ?_
 refine mwp_draw [] [_] mo (by decide) rfl rfl rfl rfl ?_
 refine dO rfl rfl rfl (op_load' rfl rfl rfl ta24 rfl ⟨rfl, rfl⟩) <| dOps_op rfl rfl (.cons (op_call rfl rfl rfl co80 (Bottom_spec (.mk k ins) _)) .nil) <| dO rfl rfl rfl (op_load' rfl rfl rfl ta30 rfl ⟨rfl, rfl⟩) <| dOps_op rfl rfl (.cons (op_call rfl rfl rfl co79 (valSame_spec (BottomF (.mk k ins)) (.mk n m s c w) _)) .nil) <| dO rfl rfl rfl (op_assign rfl rfl ⟨rfl, rfl⟩) <| dOps_nil <| mwp_ret ?_
 exact ret_tmp (.inr rfl) Tryz.results63 rfl (.of_eq (rfl)) (.bool _) ⟨rfl, rfl⟩
end Go.Proofs.YthkikhggmbiffaaGreat
end
section
set_option linter.unusedVariables false
set_option linter.unusedSimpArgs false
set_option maxRecDepth 20000
set_option maxHeartbeats 400000
namespace Go.Proofs.YthkikhggmbiffaaGreat
open Go Go.MV
def pairsY (l : List Bs) : List (List MV) := (List.range (l.length - 1)).map fun i => [encX (l.getD i []), encX (l.getD (i + 1) [])]
theorem pairsY_len (l : List Bs) : (pairsY l).length = l.length - 1 := by simp [pairsY]
theorem pairsY_get {l : List Bs} {i : Nat} {a b : Bs} (ha : l[i]? = some a) (hb : l[i + 1]? = some b) : (pairsY l)[i]? = some [encX a, encX b] := by
 have h1 := (List.getElem?_eq_some_iff.1 hb).1
 unfold pairsY
 rw [List.getElem?_map, List.getElem?_range (by omega)]
 simp [ha, hb]
theorem rises_iff : ∀ l : List Bs, risesF l = true ↔ ∀ i, i + 1 < l.length → Op.bytesLess (l.getD i []) (l.getD (i + 1) []) = true
 | [] => by simp [risesF]
 | [a] => by simp [risesF]
 | a :: b :: l => by
  rw [risesF, Bool.and_eq_true, rises_iff (b :: l)]
  constructor
  ·rintro ⟨h1, h2⟩ i hi
   cases i with
   | zero => simpa using h1
   | succ i => simpa using h2 i (by simpa using hi)
  ·intro h
   exact ⟨by simpa using h 0 (by simp), fun i hi => by simpa using h (i + 1) (by simpa using hi)⟩
def twoY (l : List (List Tk)) : List (List Tk × List Tk) := match l with
 | [] => []
 | a :: l => l.map (fun b => (a, b)) ++ twoY l
def encP (p : List Tk × List Tk) : List MV := [encC p.1, encC p.2]
theorem two_iff : ∀ l : List (List Tk), pairsF l = true ↔ ∀ p ∈ twoY l, pairF p.1 p.2 = true
 | [] => by simp [pairsF, twoY]
 | a :: l => by
  rw [pairsF, twoY, Bool.and_eq_true, two_iff l, List.all_eq_true]
  simp only [List.mem_append, List.mem_map]
  constructor
  ·rintro ⟨h1, h2⟩ p (⟨b, hb, rfl⟩ | hp)
   ·exact h1 b hb
   ·exact h2 p hp
  ·intro h
   exact ⟨fun b hb => h (a, b) (.inl ⟨b, hb, rfl⟩), fun p hp => h p (.inr hp)⟩
theorem drop_cons_get {α : Type} {l r : List α} {a : α} {j : Nat} (h : a :: r = l.drop j) : l[j]? = some a ∧ r = l.drop (j + 1) := by
 have h1 := congrArg (fun q => q[0]?) h
 have h2 := congrArg (List.drop 1) h
 simp only [List.getElem?_cons_zero, List.getElem?_drop, Nat.add_zero] at h1
 refine ⟨h1.symm, ?_⟩
 simpa [List.drop_drop] using h2
theorem drop_nil_len {α : Type} {l : List α} {j : Nat} (h : [] = l.drop j) : l.length ≤ j := by
 have := congrArg List.length h
 simp at this
 omega
theorem drop_at {α : Type} {l : List α} {i : Nat} {a : α} (h : l[i]? = some a) : l.drop i = a :: l.drop (i + 1) := by
 obtain ⟨hlt, e⟩ := List.getElem?_eq_some_iff.1 h
 rw [List.drop_eq_getElem_cons hlt, e]
theorem two_mem : ∀ {l : List (List Tk)} {a b : List Tk}, (a, b) ∈ twoY l → a ∈ l ∧ b ∈ l
 | [], a, b, h => by simp [twoY] at h
 | x :: l, a, b, h => by
  rw [twoY, List.mem_append] at h
  rcases h with h | h
  ·obtain ⟨y, hy, e⟩ := List.mem_map.1 h
   injection e with e1 e2
   subst e1 e2
   exact ⟨List.mem_cons_self .., List.mem_cons_of_mem _ hy⟩
  ·have := two_mem h
   exact ⟨List.mem_cons_of_mem _ this.1, List.mem_cons_of_mem _ this.2⟩
theorem clock_len {c : List Tk} (h : isClockF c = true) : c.length ≤ 40 := by
 unfold isClockF at h
 simp at h
 omega
def orF (l : List Int) : Int := (l.find? (· != 0)).getD 0
theorem or_two (a b : Int) : orF [a, b] = if a ≠ 0 then a else b := by
 unfold orF
 by_cases h : a = 0
 ·by_cases h2 : b = 0
  ·simp [h, h2]
  ·simp [h, h2]
 ·simp [h]
theorem or_cons (a : Int) (l : List Int) : orF (a :: l) = if a ≠ 0 then a else orF l := by
 unfold orF
 by_cases h : a = 0 <;> simp [h]
def encI (n : Int) : MV := .int .i64 n
theorem ticks_at {a b : List Tk} {i : Nat} {x y : Tk} (ha : a[i]? = some x) (hb : b[i]? = some y) : byTicksF (a.drop i) (b.drop i) = if tickC x y ≠ 0 then tickC x y else byTicksF (a.drop (i + 1)) (b.drop (i + 1)) := by
 rw [drop_at ha, drop_at hb, byTicksF]
def findGo {α : Type} (p : α → Bool) : Nat → List α → Int
 | _, [] => -1
 | i, x :: l => if p x then (i : Int) else findGo p (i + 1) l
theorem find_any {α : Type} (p : α → Bool) : ∀ (i : Nat) (l : List α), decide (0 ≤ findGo p i l) = l.any p
 | _, [] => by simp [findGo]
 | i, x :: l => by
  rw [findGo, List.any_cons]
  split
  ·rename_i h; simp [h]
  ·rename_i h; rw [find_any p (i + 1) l]; simp [h]
theorem find_at {α : Type} {p : α → Bool} {l : List α} {i : Nat} {x : α} (h : l[i]? = some x) : findGo p i (l.drop i) = if p x then (i : Int) else findGo p (i + 1) (l.drop (i + 1)) := by
 rw [drop_at h, findGo]
theorem pairs_iter (l : List Bs) (hlen : l.length ≤ maxLen) (bid l0 : Nat) : IterOk Tryz.prog 100 [] [.ref bid 0] (pairsY l) (fun σ => σ.length = l0 ∧ σ[bid]? = some (.cells [.lst none 1 (l.map encX)])) := by
 refine iterOk_of fun id T m hok hm hyt hyf => ?_
 refine mcalls_body Tryz.func100 rfl Tryz.ntmps100 (Nat.le_of_ble_eq_true rfl) ?_
 rw [List.append_nil]
 show mwp _ _ _ _ _ _ _ (([] : MS) ++ T 0)
 refine mwp_seq <| qR rfl <| qA rfl rfl rfl <| qN <| mwp_block ?_
 refine mwp_loopK (α := Nat) [(0, _), (1, _)] (fun j => [(3, .int .i64 ((j + 1 : Nat) : Int))]) (fun j => T j) (fun j => j ≤ m) (fun j => m + 1 - j) (0) (.keep rfl (.keep rfl (.nil))) (.keep rfl (.nil)) (by omega) (rfl) ?_
 rintro j hj
 refine mwp_seq <| mwp_seq <| qR rfl <| qM rfl rfl rfl <| qO rfl <| op_load_ref rfl rfl (hok _).2 ta122 rfl <| qE rfl rfl Tryz.underlying122 rfl <| qC rfl rfl rfl rfl rfl <| qN ?_
 refine mwp_cond_split rfl (fun h7 => ?_) (fun h7 => ?_)
 ·
  have hlt : j + 1 < l.length := by rw [List.length_map] at h7; simp at h7; omega
  obtain ⟨a, hs⟩ : ∃ a, l[j]? = some a := ⟨_, List.getElem?_eq_getElem (by omega)⟩
  obtain ⟨b, hs2⟩ : ∃ a, l[j + 1]? = some a := ⟨_, List.getElem?_eq_getElem hlt⟩
  have hy := pairsY_get hs hs2
  have hjl : j < (pairsY l).length := (List.getElem?_eq_some_iff.1 hy).1
  refine mwp_skip <| mwp_seq <| mwp_block <| mwp_seq ?_
  rcases Nat.lt_or_eq_of_le hj with hjm | hjm
  ·
   refine mwp_draw [10] [_, T (j + 1)] mo (by decide) rfl rfl rfl rfl ?_
   refine dO rfl rfl rfl (op_move rfl rfl ⟨rfl, rfl⟩) <| dOps_op rfl rfl (.cons (op_load_ref rfl rfl (hok _).2 ta122 rfl ⟨rfl, rfl⟩) (.cons (op_load_ref rfl rfl (hok _).2 ta122 rfl ⟨rfl, rfl⟩) (.nil))) <| dOps_op rfl rfl (.cons (op_move rfl rfl ⟨rfl, rfl⟩) (.cons (op_move rfl rfl ⟨rfl, rfl⟩) (.nil))) <| dOps_op rfl rfl (.cons (op_arith rfl rfl rfl (wsub (a := j + 1) (b := 1) (c := j) (by omega) (by simp only [maxLen] at hlen; omega)) ⟨rfl, rfl⟩) (.cons (op_arith rfl rfl rfl (wsub (a := j + 1) (b := 1) (c := j) (by omega) (by simp only [maxLen] at hlen; omega)) ⟨rfl, rfl⟩) (.nil))) ?_
   refine dOps_op rfl rfl (.cons (op_indexAddr rfl Tryz.underlying122 sz9 (by decide) rfl rfl rfl (get_map hs) ⟨rfl, rfl⟩) (.cons (op_indexAddr rfl Tryz.underlying122 sz9 (by decide) rfl rfl rfl (get_map hs) ⟨rfl, rfl⟩) (.nil))) ?_
   refine dO rfl rfl rfl (op_load_sptr rfl rfl ta9 rfl ⟨rfl, rfl⟩) <| dOps_op rfl rfl (.cons (op_load_ref rfl rfl (hok _).2 ta122 rfl ⟨rfl, rfl⟩) (.cons (op_load_ref rfl rfl (hok _).2 ta122 rfl ⟨rfl, rfl⟩) (.nil))) <| dOps_op rfl rfl (.cons (op_move rfl rfl ⟨rfl, rfl⟩) (.cons (op_move rfl rfl ⟨rfl, rfl⟩) (.nil))) <| dOps_op rfl rfl (.cons (op_indexAddr rfl Tryz.underlying122 sz9 (by decide) rfl rfl rfl (get_map hs2) ⟨rfl, rfl⟩) (.cons (op_indexAddr rfl Tryz.underlying122 sz9 (by decide) rfl rfl rfl (get_map hs2) ⟨rfl, rfl⟩) (.nil))) ?_
   refine dO rfl rfl rfl (op_load_sptr rfl rfl ta9 rfl ⟨rfl, rfl⟩) <| dOps_eff rfl rfl rfl rfl ((hyt j _ hjm hy).at0 rfl rfl rfl) <| dO rfl rfl rfl (op_not rfl rfl ⟨rfl, rfl⟩) <| dOps_nil <| mwp_cond_f rfl (rfl) <| mwp_skip <| qR rfl <| qM rfl rfl rfl <| qO rfl <| op_arith rfl rfl rfl rfl <| qA rfl rfl rfl <| qN ?_
   refine ⟨j + 1, by omega, by omega, rfl, (.keep rfl (.keep rfl (.nil))), (.eq rfl (int_succ hlt hlen) (.nil))⟩
  ·
   refine mwp_draw [10] [_, T (j + 1)] mo (by decide) rfl rfl rfl rfl ?_
   refine dO rfl rfl rfl (op_move rfl rfl ⟨rfl, rfl⟩) <| dOps_op rfl rfl (.cons (op_load_ref rfl rfl (hok _).2 ta122 rfl ⟨rfl, rfl⟩) (.cons (op_load_ref rfl rfl (hok _).2 ta122 rfl ⟨rfl, rfl⟩) (.nil))) <| dOps_op rfl rfl (.cons (op_move rfl rfl ⟨rfl, rfl⟩) (.cons (op_move rfl rfl ⟨rfl, rfl⟩) (.nil))) <| dOps_op rfl rfl (.cons (op_arith rfl rfl rfl (wsub (a := j + 1) (b := 1) (c := j) (by omega) (by simp only [maxLen] at hlen; omega)) ⟨rfl, rfl⟩) (.cons (op_arith rfl rfl rfl (wsub (a := j + 1) (b := 1) (c := j) (by omega) (by simp only [maxLen] at hlen; omega)) ⟨rfl, rfl⟩) (.nil))) ?_
   refine dOps_op rfl rfl (.cons (op_indexAddr rfl Tryz.underlying122 sz9 (by decide) rfl rfl rfl (get_map hs) ⟨rfl, rfl⟩) (.cons (op_indexAddr rfl Tryz.underlying122 sz9 (by decide) rfl rfl rfl (get_map hs) ⟨rfl, rfl⟩) (.nil))) ?_
   refine dO rfl rfl rfl (op_load_sptr rfl rfl ta9 rfl ⟨rfl, rfl⟩) <| dOps_op rfl rfl (.cons (op_load_ref rfl rfl (hok _).2 ta122 rfl ⟨rfl, rfl⟩) (.cons (op_load_ref rfl rfl (hok _).2 ta122 rfl ⟨rfl, rfl⟩) (.nil))) <| dOps_op rfl rfl (.cons (op_move rfl rfl ⟨rfl, rfl⟩) (.cons (op_move rfl rfl ⟨rfl, rfl⟩) (.nil))) <| dOps_op rfl rfl (.cons (op_indexAddr rfl Tryz.underlying122 sz9 (by decide) rfl rfl rfl (get_map hs2) ⟨rfl, rfl⟩) (.cons (op_indexAddr rfl Tryz.underlying122 sz9 (by decide) rfl rfl rfl (get_map hs2) ⟨rfl, rfl⟩) (.nil))) ?_
   refine dO rfl rfl rfl (op_load_sptr rfl rfl ta9 rfl ⟨rfl, rfl⟩) <| dOps_eff rfl rfl rfl rfl ((hyf j _ hjm hy).at0 rfl rfl rfl) <| dO rfl rfl rfl (op_not rfl rfl ⟨rfl, rfl⟩) <| dOps_nil <| mwp_cond_t rfl (rfl) ?_
   refine mwp_facts fun hcv hcl => ?_
   refine mwp_ret ?_
   exact ret_noneT (S' := T (j + 1)) (by simp) Tryz.results100 (by rw [(hok _).1, (hok _).1]; exact Nat.le_refl _) hcl ⟨rfl, by rw [hjm, if_pos (by omega)]⟩
 ·
  have hge : l.length ≤ j + 1 := by rw [List.length_map] at h7; simp at h7; omega
  have hpl := pairsY_len l
  have hjm : j = m := by omega
  refine mwp_facts fun hcv hcl => ?_
  refine mwp_exit ?_
  exact ret_noneT (S' := T j) (by simp) Tryz.results100 (by rw [(hok _).1, (hok _).1]; exact Nat.le_refl _) hcl ⟨rfl, by rw [hjm, if_neg (by rw [pairsY_len]; omega)]⟩
theorem pairs_spec (l : List Bs) (S : MS) : MCalls Tryz.prog 86 [.lst none 1 (l.map encX)] S fun v σ' => v = .fn (.func 100) [] [.ref S.length 0] ∧ σ' = S ++ [.cells [.lst none 1 (l.map encX)]] := by
 refine mcalls_body Tryz.func86 rfl Tryz.ntmps86 (Nat.le_of_ble_eq_true rfl) ?_
 refine mwp_seq <| qR rfl <| qB rfl rfl rfl rfl rfl <| qA rfl rfl rfl <| qN <| mwp_seq <| qR rfl <| qO rfl <| op_makeFunc rfl rfl rfl <| qA rfl rfl rfl <| qN ?_
 refine mwp_facts fun hcv hcl => ?_
 refine mwp_ret ?_
 exact ret_tmpT (.inr rfl) Tryz.results86 rfl (.refl _) (hcv 2 _ rfl) (by simp) hcl ⟨rfl, rfl⟩
theorem rowsIs_spec (l : List Bs) (S : MS) : MCalls Tryz.prog 75 [.lst none 1 (l.map encX)] S fun v σ' => v = .bool (risesF l) ∧ σ' = S := by
 refine mcalls_body Tryz.func75 rfl Tryz.ntmps75 (Nat.le_of_ble_eq_true rfl) ?_
 refine mwp_len (t := 0) rfl fun hlen => ?_
 rw [List.length_map] at hlen
 refine mwp_seq <| qR rfl <| qO rfl <| op_alloc' rfl zm4 rfl rfl <| qN <| mwp_seq <| mwp_seq <| qR rfl <| qM rfl rfl rfl ?_
 refine wOps_op rfl (op_call rfl rfl rfl co86 ((pairs_spec l _).mono ?_))
 rintro _ _ ⟨rfl, rfl⟩
 rw [List.append_assoc]
 refine qN <| mwp_block ?_
 refine mwp_rangeB (ok := fun σ => σ.length = S.length + 3 ∧ σ[(S ++ [MObj.cells [.bool false]]).length]? = some (.cells [.lst none 1 (l.map encX)])) (ys := pairsY l) .ret (.inl rfl) (fun j => Op.bytesLess (l.getD j []) (l.getD (j + 1) [])) (fun j => ([.cells [.bool false], .cells [.lst none 1 (l.map encX)]] : MS)) (fun j => ([.cells [.bool false], .cells [.lst none 1 (l.map encX)]] : MS)) (fun j => rfl) (fun j => rfl) rfl (fun j o ho n hn => by simp at ho; rcases ho with rfl | rfl <;> intro x hx <;> (simp at hx; subst hx; first | exact .bool _ | exact cl_texts _ _ | exact cl_clocks _ _)) (fun j o ho n hn => by simp at ho; rcases ho with rfl | rfl <;> intro x hx <;> (simp at hx; subst hx; first | exact .bool _ | exact cl_texts _ _ | exact cl_clocks _ _)) rfl co100 rfl (by simp) ((pairs_iter l hlen _ _).weak fun σ h => h.1) (fun j => ⟨by simp, get_box⟩) (fun j s q => ⟨by simp, get_box⟩) rfl (fun y hy => by obtain ⟨i, _, rfl⟩ := List.mem_map.1 hy; rfl) ?_ ?_ ?_
 ·
  intro j y hy hbef L'
  obtain ⟨hjl, hys⟩ := List.getElem?_eq_some_iff.1 hy
  have hpl := pairsY_len l
  obtain ⟨a, hs⟩ : ∃ a, l[j]? = some a := ⟨_, List.getElem?_eq_getElem (by omega)⟩
  obtain ⟨b, hs2⟩ : ∃ a, l[j + 1]? = some a := ⟨_, List.getElem?_eq_getElem (by omega)⟩
  have hyy := pairsY_get hs hs2
  rw [hy] at hyy
  injection hyy with hyy
  subst hyy
  have ha : l.getD j [] = a := by simp [hs]
  have hb : l.getD (j + 1) [] = b := by simp [hs2]
  rw [ha, hb]
  refine mwp_seq <| qR rfl <| qA rfl rfl rfl <| qN <| qR rfl <| qA rfl rfl rfl <| qN ?_
  refine ⟨rfl, [], by rw [List.append_nil], ?_⟩
  rw [List.append_nil]
  refine mwp_block <| mwp_seq <| qR rfl <| qM rfl rfl rfl <| qM rfl rfl rfl <| qO rfl <| op_strcmp rfl rfl rfl rfl <| qN ?_
  refine mwp_cond_split rfl (fun h11 => ?_) (fun h11 => ?_)
  ·
   refine mwp_seq <| qR rfl <| qO rfl <| op_store_mid rfl rfl rfl rfl sz4 rfl rfl (Nat.le_of_ble_eq_true rfl) rfl <| qN <| mwp_ret ?_
   exact .inr ⟨by simpa using h11, rfl, [], by rw [List.append_nil]; rfl⟩
  ·
   refine mwp_skip ?_
   exact .inl ⟨by simpa using h11, rfl, [], by rw [List.append_nil]⟩
 ·
  intro hall
  rw [List.append_assoc]
  have hr : risesF l = true := (rises_iff l).2 fun i hi => hall i (by rw [pairsY_len]; omega)
  refine mwp_seq <| qR rfl <| qO rfl <| op_store' rfl rfl rfl rfl sz4 rfl rfl (Nat.le_of_ble_eq_true rfl) rfl <| qN <| mwp_ret ?_
  exact ret_cell (.inr rfl) Tryz.results75 rfl rfl ta4 rfl (.refl _) (.bool _) ⟨by rw [hr], rfl⟩
 ·
  intro j y hy hp
  have hjl := (List.getElem?_eq_some_iff.1 hy).1
  rw [pairsY_len] at hjl
  have hr : risesF l = false := by
   cases h : risesF l with
   | false => rfl
   | true => rw [(rises_iff l).1 h j (by omega)] at hp; cases hp
  rw [List.append_assoc]
  exact ret_cell (.inr rfl) Tryz.results75 rfl rfl ta4 rfl (.refl _) (.bool _) ⟨by rw [hr], rfl⟩
theorem two_iter (l : List (List Tk)) (hlen : l.length ≤ maxLen) (bid l0 : Nat) : IterOk Tryz.prog 93 [] [.ref bid 0] ((twoY l).map encP) (fun σ => σ.length = l0 ∧ σ[bid]? = some (.cells [.lst none 1 (l.map encC)])) := by
 refine iterOk_of fun id T m hok hm hyt hyf => ?_
 have hml : ((twoY l).map encP).length = (twoY l).length := List.length_map ..
 refine mcalls_body Tryz.func93 rfl Tryz.ntmps93 (Nat.le_of_ble_eq_true rfl) ?_
 rw [List.append_nil]
 show mwp _ _ _ _ _ _ _ (([] : MS) ++ T 0)
 refine mwp_seq <| qR rfl <| qO rfl <| op_load_ref rfl rfl (hok _).2 ta27 rfl <| qE rfl rfl Tryz.underlying27 rfl <| qM rfl rfl rfl <| qN <| mwp_block ?_
 refine mwp_loopK (α := Nat × Nat) [(0, _), (1, _), (6, _)] (fun x => [(7, .int .i64 (x.2 : Int))]) (fun x => T x.1) (fun x => x.1 ≤ m ∧ x.2 ≤ l.length ∧ twoY (l.drop x.2) = (twoY l).drop x.1) (fun x => l.length - x.2) (⟨0, 0⟩) (.keep rfl (.keep rfl (.keep rfl (.nil)))) (.keep rfl (.nil)) (⟨by simp, by simp, rfl⟩) (rfl) ?_
 rintro ⟨j, i⟩ ⟨hj, hi, he⟩
 dsimp only at hj hi he ⊢
 refine mwp_seq <| qR rfl <| qC rfl rfl rfl rfl rfl <| qN <| mwp_seq ?_
 refine mwp_cond_split rfl (fun h8 => ?_) (fun h8 => ?_)
 ·
  have hlt : i < l.length := by rw [List.length_map] at h8; simpa using h8
  obtain ⟨a, hs⟩ : ∃ a, l[i]? = some a := ⟨_, List.getElem?_eq_getElem hlt⟩
  refine mwp_skip <| mwp_seq <| mwp_block <| mwp_seq <| qR rfl <| qM rfl rfl rfl <| qA rfl rfl rfl <| qN <| mwp_seq <| qR rfl <| qM rfl rfl rfl <| qO rfl <| op_arith rfl rfl rfl (wadd (a := i) (b := 1) rfl (by simp only [maxLen] at hlen; omega)) ?_
  refine qA rfl rfl rfl <| qN <| mwp_block ?_
  refine mwp_loopK (α := Nat × Nat) [(0, _), (1, _), (3, _), (6, _), (7, _)] (fun y => [(4, .int .i64 (y.2 : Int))]) (fun y => T y.1) (fun y => y.1 ≤ m ∧ y.2 ≤ l.length ∧ (l.drop y.2).map (fun b => (a, b)) ++ twoY (l.drop (i + 1)) = (twoY l).drop y.1) (fun y => l.length - y.2) (⟨j, i + 1⟩) (.keep rfl (.keep rfl (.keep rfl (.keep rfl (.keep rfl (.nil)))))) (.keep rfl (.nil)) (⟨hj, by dsimp only; omega, by dsimp only; rw [← he, drop_at hs, twoY]⟩) (rfl) ?_
  rintro ⟨j2, k⟩ ⟨hj2, hk, he2⟩
  dsimp only at hj2 hk he2 ⊢
  refine mwp_seq <| mwp_seq <| qR rfl <| qM rfl rfl rfl <| qO rfl <| op_load_ref rfl rfl (hok _).2 ta27 rfl <| qE rfl rfl Tryz.underlying27 rfl <| qC rfl rfl rfl rfl rfl <| qN ?_
  refine mwp_cond_split rfl (fun h15 => ?_) (fun h15 => ?_)
  ·
   have hlt2 : k < l.length := by rw [List.length_map] at h15; simpa using h15
   obtain ⟨b, hs2⟩ : ∃ a, l[k]? = some a := ⟨_, List.getElem?_eq_getElem hlt2⟩
   have hnx := he2
   rw [drop_at hs2, List.map_cons, List.cons_append] at hnx
   obtain ⟨hy, hnx⟩ := drop_cons_get hnx
   replace hy : ((twoY l).map encP)[j2]? = some [encC a, encC b] := by rw [List.getElem?_map, hy]; rfl
   have hjl := (List.getElem?_eq_some_iff.1 hy).1
   refine mwp_skip <| mwp_seq <| mwp_block <| mwp_seq ?_
   rcases Nat.lt_or_eq_of_le hj2 with hjm | hjm
   ·
    refine mwp_draw [9] [_, T (j2 + 1)] mo (by decide) rfl rfl rfl rfl ?_
    refine dO rfl rfl rfl (op_move rfl rfl ⟨rfl, rfl⟩) <| dOps_op rfl rfl (.cons (op_load_ref rfl rfl (hok _).2 ta27 rfl ⟨rfl, rfl⟩) (.cons (op_load_ref rfl rfl (hok _).2 ta27 rfl ⟨rfl, rfl⟩) (.nil))) <| dOps_op rfl rfl (.cons (op_move rfl rfl ⟨rfl, rfl⟩) (.cons (op_move rfl rfl ⟨rfl, rfl⟩) (.nil))) <| dOps_op rfl rfl (.cons (op_indexAddr rfl Tryz.underlying27 sz70 (by decide) rfl rfl rfl (get_map hs) ⟨rfl, rfl⟩) (.cons (op_indexAddr rfl Tryz.underlying27 sz70 (by decide) rfl rfl rfl (get_map hs) ⟨rfl, rfl⟩) (.nil))) ?_
    refine dO rfl rfl rfl (op_load_sptr rfl rfl ta70 rfl ⟨rfl, rfl⟩) <| dOps_op rfl rfl (.cons (op_load_ref rfl rfl (hok _).2 ta27 rfl ⟨rfl, rfl⟩) (.cons (op_load_ref rfl rfl (hok _).2 ta27 rfl ⟨rfl, rfl⟩) (.nil))) <| dOps_op rfl rfl (.cons (op_move rfl rfl ⟨rfl, rfl⟩) (.cons (op_move rfl rfl ⟨rfl, rfl⟩) (.nil))) <| dOps_op rfl rfl (.cons (op_indexAddr rfl Tryz.underlying27 sz70 (by decide) rfl rfl rfl (get_map hs2) ⟨rfl, rfl⟩) (.cons (op_indexAddr rfl Tryz.underlying27 sz70 (by decide) rfl rfl rfl (get_map hs2) ⟨rfl, rfl⟩) (.nil))) ?_
    refine dO rfl rfl rfl (op_load_sptr rfl rfl ta70 rfl ⟨rfl, rfl⟩) <| dOps_eff rfl rfl rfl rfl ((hyt j2 _ hjm hy).at0 rfl rfl rfl) <| dO rfl rfl rfl (op_not rfl rfl ⟨rfl, rfl⟩) <| dOps_nil <| mwp_cond_f rfl (rfl) <| mwp_skip <| qR rfl <| qM rfl rfl rfl <| qO rfl <| op_arith rfl rfl rfl rfl <| qA rfl rfl rfl <| qN ?_
    refine ⟨⟨j2 + 1, k + 1⟩, by dsimp only; omega, ⟨by dsimp only; omega, by dsimp only; omega, hnx⟩, rfl, (.keep rfl (.keep rfl (.keep rfl (.keep rfl (.keep rfl (.nil)))))), (.eq rfl (int_succ hlt2 hlen) (.nil))⟩
   ·
    refine mwp_draw [9] [_, T (j2 + 1)] mo (by decide) rfl rfl rfl rfl ?_
    refine dO rfl rfl rfl (op_move rfl rfl ⟨rfl, rfl⟩) <| dOps_op rfl rfl (.cons (op_load_ref rfl rfl (hok _).2 ta27 rfl ⟨rfl, rfl⟩) (.cons (op_load_ref rfl rfl (hok _).2 ta27 rfl ⟨rfl, rfl⟩) (.nil))) <| dOps_op rfl rfl (.cons (op_move rfl rfl ⟨rfl, rfl⟩) (.cons (op_move rfl rfl ⟨rfl, rfl⟩) (.nil))) <| dOps_op rfl rfl (.cons (op_indexAddr rfl Tryz.underlying27 sz70 (by decide) rfl rfl rfl (get_map hs) ⟨rfl, rfl⟩) (.cons (op_indexAddr rfl Tryz.underlying27 sz70 (by decide) rfl rfl rfl (get_map hs) ⟨rfl, rfl⟩) (.nil))) ?_
    refine dO rfl rfl rfl (op_load_sptr rfl rfl ta70 rfl ⟨rfl, rfl⟩) <| dOps_op rfl rfl (.cons (op_load_ref rfl rfl (hok _).2 ta27 rfl ⟨rfl, rfl⟩) (.cons (op_load_ref rfl rfl (hok _).2 ta27 rfl ⟨rfl, rfl⟩) (.nil))) <| dOps_op rfl rfl (.cons (op_move rfl rfl ⟨rfl, rfl⟩) (.cons (op_move rfl rfl ⟨rfl, rfl⟩) (.nil))) <| dOps_op rfl rfl (.cons (op_indexAddr rfl Tryz.underlying27 sz70 (by decide) rfl rfl rfl (get_map hs2) ⟨rfl, rfl⟩) (.cons (op_indexAddr rfl Tryz.underlying27 sz70 (by decide) rfl rfl rfl (get_map hs2) ⟨rfl, rfl⟩) (.nil))) ?_
    refine dO rfl rfl rfl (op_load_sptr rfl rfl ta70 rfl ⟨rfl, rfl⟩) <| dOps_eff rfl rfl rfl rfl ((hyf j2 _ hjm hy).at0 rfl rfl rfl) <| dO rfl rfl rfl (op_not rfl rfl ⟨rfl, rfl⟩) <| dOps_nil <| mwp_cond_t rfl (rfl) ?_
    refine mwp_facts fun hcv hcl => ?_
    refine mwp_ret ?_
    exact ret_noneT (S' := T (j2 + 1)) (by simp) Tryz.results93 (by rw [(hok _).1, (hok _).1]; exact Nat.le_refl _) hcl ⟨rfl, by rw [hjm, if_pos (by omega)]⟩
  ·
   have hge2 : k = l.length := by rw [List.length_map] at h15; simp at h15; omega
   refine mwp_exit <| qR rfl <| qO rfl <| op_arith rfl rfl rfl rfl <| qM rfl rfl rfl <| qN ?_
   refine ⟨⟨j2, i + 1⟩, by dsimp only; omega, ⟨by dsimp only; omega, by dsimp only; omega, by rw [hge2, List.drop_length] at he2; exact he2⟩, rfl, (.keep rfl (.keep rfl (.keep rfl (.nil)))), (.eq rfl (int_succ hlt hlen) (.nil))⟩
 ·
  have hge : i = l.length := by rw [List.length_map] at h8; simp at h8; omega
  rw [hge, List.drop_length] at he
  have hdl := drop_nil_len he
  have hjm : j = m := by omega
  refine mwp_facts fun hcv hcl => ?_
  refine mwp_exit ?_
  exact ret_noneT (S' := T j) (by simp) Tryz.results93 (by rw [(hok _).1, (hok _).1]; exact Nat.le_refl _) hcl ⟨rfl, by rw [hjm, if_neg (by omega)]⟩
theorem two_spec (l : List (List Tk)) (S : MS) : MCalls Tryz.prog 81 [.lst none 1 (l.map encC)] S fun v σ' => v = .fn (.func 93) [] [.ref S.length 0] ∧ σ' = S ++ [.cells [.lst none 1 (l.map encC)]] := by
 refine mcalls_body Tryz.func81 rfl Tryz.ntmps81 (Nat.le_of_ble_eq_true rfl) ?_
 refine mwp_seq <| qR rfl <| qB rfl rfl rfl rfl rfl <| qA rfl rfl rfl <| qN <| mwp_seq <| qR rfl <| qO rfl <| op_makeFunc rfl rfl rfl <| qA rfl rfl rfl <| qN ?_
 refine mwp_facts fun hcv hcl => ?_
 refine mwp_ret ?_
 exact ret_tmpT (.inr rfl) Tryz.results81 rfl (.refl _) (hcv 2 _ rfl) (by simp) hcl ⟨rfl, rfl⟩
theorem isNaNu_spec (m : Int) (S : MS) : MCalls Tryz.prog 105 [.int .u64 m] S fun v σ' => v = .bool false ∧ σ' = S := by
 refine mcalls_body Tryz.func105 rfl Tryz.ntmps105 (Nat.le_of_ble_eq_true rfl) ?_
 refine mwp_seq <| qR rfl <| qA rfl rfl rfl <| qN <| mwp_seq <| qR rfl <| qM rfl rfl rfl <| qM rfl rfl rfl <| qC rfl rfl rfl rfl rfl <| qA rfl rfl rfl <| qN <| mwp_ret ?_
 exact ret_tmp (.inr rfl) Tryz.results105 rfl (.of_eq (by simp)) (.bool _) ⟨rfl, rfl⟩
theorem compareu_spec (m n : Int) (S : MS) : MCalls Tryz.prog 98 [.int .u64 m, .int .u64 n] S fun v σ' => v = .int .i64 (cmpI m n) ∧ σ' = S := by
 refine mcalls_body Tryz.func98 rfl Tryz.ntmps98 (Nat.le_of_ble_eq_true rfl) ?_
 refine mwp_seq <| qR rfl <| qA rfl rfl rfl <| qN <| mwp_seq <| qR rfl <| qM rfl rfl rfl ?_
 refine wOps_op rfl (op_call rfl rfl rfl co105 ((isNaNu_spec m _).mono ?_))
 rintro _ _ ⟨rfl, rfl⟩
 refine qA rfl rfl rfl <| qN <| mwp_seq <| qR rfl <| qM rfl rfl rfl ?_
 refine wOps_op rfl (op_call rfl rfl rfl co105 ((isNaNu_spec n _).mono ?_))
 rintro _ _ ⟨rfl, rfl⟩
 refine qA rfl rfl rfl <| qN <| mwp_seq <| mwp_seq <| qR rfl <| qM rfl rfl rfl <| qN <| mwp_cond_f rfl (rfl) <| mwp_skip <| mwp_seq <| mwp_seq <| qR rfl <| qM rfl rfl rfl <| qN <| mwp_cond_f rfl (rfl) <| mwp_skip <| mwp_seq <| mwp_seq <| qR rfl <| qM rfl rfl rfl <| qM rfl rfl rfl <| qC rfl rfl rfl rfl rfl <| qN ?_
 refine mwp_cond_split rfl (fun h16 => ?_) (fun h16 => ?_)
 ·
  refine mwp_seq <| qR rfl <| qA rfl rfl rfl <| qN <| mwp_ret ?_
  exact ret_tmp (.inr rfl) Tryz.results98 rfl (.of_eq (by unfold cmpI; simp_all <;> omega)) (.int _ _) ⟨rfl, rfl⟩
 ·
  refine mwp_skip <| mwp_seq <| mwp_seq <| qR rfl <| qM rfl rfl rfl <| qM rfl rfl rfl <| qC rfl rfl rfl rfl rfl <| qN ?_
  refine mwp_cond_split rfl (fun h19 => ?_) (fun h19 => ?_)
  ·
   refine mwp_seq <| qR rfl <| qA rfl rfl rfl <| qN <| mwp_ret ?_
   exact ret_tmp (.inr rfl) Tryz.results98 rfl (.of_eq (by unfold cmpI; simp_all <;> omega)) (.int _ _) ⟨rfl, rfl⟩
  ·
   refine mwp_skip <| mwp_seq <| qR rfl <| qA rfl rfl rfl <| qN <| mwp_ret ?_
   exact ret_tmp (.inr rfl) Tryz.results98 rfl (.of_eq (by unfold cmpI; simp_all <;> omega)) (.int _ _) ⟨rfl, rfl⟩
theorem cmpOr_spec (l : List Int) (S : MS) : MCalls Tryz.prog 96 [.lst none 1 (l.map encI)] S fun v σ' => v = .int .i64 (orF l) ∧ σ' = S := by
 refine mcalls_body Tryz.func96 rfl Tryz.ntmps96 (Nat.le_of_ble_eq_true rfl) ?_
 refine mwp_len (t := 0) rfl fun hlen => ?_
 rw [List.length_map] at hlen
 refine mwp_seq <| qR rfl <| qA rfl rfl rfl <| qN <| mwp_seq <| qR rfl <| qA rfl rfl rfl <| qN <| mwp_seq <| mwp_seq <| qR rfl <| qM rfl rfl rfl <| qE rfl rfl Tryz.underlying134 rfl <| qM rfl rfl rfl <| qN <| mwp_block ?_
 refine mwp_loopK (α := Nat) [(3, _), (6, _), (7, _)] (fun i => [(8, .int .i64 (i : Int))]) (fun i => []) (fun i => i ≤ l.length ∧ orF (l.drop i) = orF l) (fun i => l.length - i) (0) (.keep rfl (.keep rfl (.keep rfl (.nil)))) (.keep rfl (.nil)) (⟨by omega, rfl⟩) (rfl) ?_
 rintro i ⟨hi, he⟩
 refine mwp_seq <| qR rfl <| qC rfl rfl rfl rfl rfl <| qN <| mwp_seq ?_
 refine mwp_cond_split rfl (fun h9 => ?_) (fun h9 => ?_)
 ·
  have hlt : i < l.length := by simpa using h9
  obtain ⟨a, hs⟩ : ∃ q_, l[i]? = some q_ := ⟨_, List.getElem?_eq_getElem hlt⟩
  refine mwp_skip <| mwp_seq <| mwp_block <| mwp_seq <| qR rfl <| qO rfl <| op_indexAddr rfl Tryz.underlying134 sz3 (by decide) rfl rfl rfl (get_map hs) ?_
  refine qO rfl <| op_load_sptr rfl rfl ta3 rfl <| qA rfl rfl rfl <| qN <| mwp_seq <| qR rfl <| qM rfl rfl rfl <| qM rfl rfl rfl <| qC rfl rfl rfl rfl rfl <| qN ?_
  refine mwp_cond_split rfl (fun h14 => ?_) (fun h14 => ?_)
  ·
   refine mwp_seq <| qR rfl <| qM rfl rfl rfl <| qA rfl rfl rfl <| qN <| mwp_ret ?_
   exact ret_tmp (.inr rfl) Tryz.results96 rfl (.of_eq (by rw [← he, drop_at hs, or_cons, if_pos (by simpa using h14)]; rfl)) (.int _ _) ⟨rfl, rfl⟩
  ·
   refine mwp_skip <| qR rfl <| qO rfl <| op_arith rfl rfl rfl rfl <| qM rfl rfl rfl <| qN ?_
   refine ⟨i + 1, by omega, ⟨by omega, by rw [← he, drop_at hs, or_cons, if_neg (by simpa using h14)]⟩, rfl, (.keep rfl (.keep rfl (.keep rfl (.nil)))), (.eq rfl (int_succ hlt hlen) (.nil))⟩
 ·
  have hge : i = l.length := by simp at h9; omega
  refine mwp_exit <| mwp_seq <| qR rfl <| qM rfl rfl rfl <| qA rfl rfl rfl <| qN <| mwp_ret ?_
  exact ret_tmp (.inr rfl) Tryz.results96 rfl (.of_eq (by rw [← he, hge, List.drop_length]; rfl)) (.int _ _) ⟨rfl, rfl⟩
theorem byTicks1_spec (x y : Tk) (S : MS) : MCalls Tryz.prog 95 [encT x, encT y] S fun v σ' => v = .int .i64 (tickC x y) ∧ σ' = S := by
 refine mcalls_body Tryz.func95 rfl Tryz.ntmps95 (Nat.le_of_ble_eq_true rfl) ?_
 refine mwp_seq <| qR rfl <| qB rfl rfl rfl rfl rfl <| qB rfl rfl rfl rfl rfl <| qA rfl rfl rfl <| qN <| mwp_seq ?_
 refine mwp_draw [] [_] mo (by decide) rfl rfl rfl rfl ?_
 refine dO rfl rfl rfl (op_fieldAddr_ref rfl rfl fo89_0 ⟨rfl, rfl⟩) <| dO rfl rfl rfl (op_load' rfl rfl rfl ta3 rfl ⟨rfl, rfl⟩) <| dO rfl rfl rfl (op_fieldAddr_ref rfl rfl fo89_0 ⟨rfl, rfl⟩) <| dO rfl rfl rfl (op_load' rfl rfl rfl ta3 rfl ⟨rfl, rfl⟩) <| dOps_op rfl rfl (.cons (op_call rfl rfl rfl co97 (compare_spec x.1 y.1 _)) .nil) <| dO rfl rfl rfl (op_fieldAddr_ref rfl rfl fo89_1 ⟨rfl, rfl⟩) <| dO rfl rfl rfl (op_load' rfl rfl rfl ta25 rfl ⟨rfl, rfl⟩) <| dO rfl rfl rfl (op_fieldAddr_ref rfl rfl fo89_1 ⟨rfl, rfl⟩) <| dO rfl rfl rfl (op_load' rfl rfl rfl ta25 rfl ⟨rfl, rfl⟩) <| dOps_op rfl rfl (.cons (op_call rfl rfl rfl co98 (compareu_spec x.2 y.2 _)) .nil) <| dO rfl rfl rfl (op_buildSlice rfl Tryz.underlying134 el3 rfl rfl (by decide) (by decide) rfl rfl ⟨rfl, rfl⟩) ?_
 refine dOps_op rfl rfl (.cons (op_call rfl rfl rfl co96 (cmpOr_spec [cmpI x.1 y.1, cmpI x.2 y.2] _)) .nil) <| dO rfl rfl rfl (op_assign rfl rfl ⟨rfl, rfl⟩) <| dOps_nil <| mwp_ret ?_
 exact ret_tmp (.inr rfl) Tryz.results95 rfl (.of_eq (by rw [or_two]; rfl)) (.int _ _) ⟨rfl, rfl⟩
theorem cmpFuncT_spec (a b : List Tk) (S : MS) : MCalls Tryz.prog 94 [.lst none 2 (a.map encT), .lst none 2 (b.map encT), .fn (.func 95) [] []] S fun v σ' => v = .int .i64 (byTicksF a b) ∧ σ' = S := by
 refine mcalls_body Tryz.func94 rfl Tryz.ntmps94 (Nat.le_of_ble_eq_true rfl) ?_
 refine mwp_len (t := 0) rfl fun hlen => ?_
 rw [List.length_map] at hlen
 refine mwp_seq <| qR rfl <| qA rfl rfl rfl <| qN <| mwp_seq <| mwp_seq <| qR rfl <| qM rfl rfl rfl <| qE rfl rfl Tryz.underlying70 rfl <| qM rfl rfl rfl <| qN <| mwp_block ?_
 refine mwp_loopKJ (α := Nat) [(0, _), (1, _), (2, _), (11, _), (12, _)] (fun i => [(13, .int .i64 (i : Int))]) (fun i => []) (fun i => i ≤ a.length ∧ i ≤ b.length ∧ byTicksF (a.drop i) (b.drop i) = byTicksF a b) (fun i => a.length - i) (0) (Nat.le_refl _) (.keep rfl (.keep rfl (.keep rfl (.keep rfl (.keep rfl (.nil)))))) (.keep rfl (.nil)) (⟨by omega, by omega, rfl⟩) (rfl) ?_
 rintro i ⟨hi, hib, he⟩
 refine mwp_seq <| qR rfl <| qC rfl rfl rfl rfl rfl <| qN <| mwp_seq ?_
 refine mwp_cond_split rfl (fun h14 => ?_) (fun h14 => ?_)
 ·
  have hlt : i < a.length := by simpa using h14
  obtain ⟨x, hs⟩ : ∃ q_, a[i]? = some q_ := ⟨_, List.getElem?_eq_getElem hlt⟩
  refine mwp_skip <| mwp_seq <| mwp_block <| mwp_seq <| qR rfl <| qM rfl rfl rfl <| qO rfl <| op_indexAddr rfl Tryz.underlying70 sz89 (by decide) rfl rfl rfl (get_map hs) ?_
  refine qO rfl <| op_load_sptr rfl rfl ta89 rfl <| qO rfl <| op_alloc' rfl zm89 rfl rfl <| qA rfl rfl rfl <| qO rfl <| op_store' rfl rfl rfl rfl sz89 rfl rfl (Nat.le_of_ble_eq_true rfl) rfl <| qN <| mwp_seq <| mwp_seq <| qR rfl <| qM rfl rfl rfl <| qM rfl rfl rfl <| qE rfl rfl Tryz.underlying70 rfl <| qC rfl rfl rfl rfl rfl <| qN ?_
  refine mwp_cond_split rfl (fun h21 => ?_) (fun h21 => ?_)
  ·
   have hbe : b.drop i = [] := by rw [List.length_map] at h21; simp at h21; exact List.drop_eq_nil_of_le (by omega)
   refine mwp_seq <| qR rfl <| qA rfl rfl rfl <| qN <| mwp_ret ?_
   exact ret_tmp (.inr rfl) Tryz.results94 rfl (.of_eq (by rw [← he, hbe, drop_at hs]; rfl)) (.int _ _) ⟨rfl, rfl⟩
  ·
   have hltb : i < b.length := by rw [List.length_map] at h21; simp at h21; omega
   obtain ⟨y, hs2⟩ : ∃ s, b[i]? = some s := ⟨_, List.getElem?_eq_getElem hltb⟩
   refine mwp_skip <| mwp_seq <| qR rfl <| qM rfl rfl rfl <| qM rfl rfl rfl <| qO rfl <| op_indexAddr rfl Tryz.underlying70 sz89 (by decide) rfl rfl rfl (get_map hs2) ?_
   refine qO rfl <| op_load_sptr rfl rfl ta89 rfl <| qO rfl <| op_alloc' rfl zm89 rfl rfl <| qO rfl <| op_store' rfl rfl rfl rfl sz89 rfl rfl (Nat.le_of_ble_eq_true rfl) rfl <| qN <| mwp_seq <| qR rfl <| qM rfl rfl rfl <| qL rfl rfl rfl rfl ta89 rfl <| qL rfl rfl rfl rfl ta89 rfl ?_
   refine wOps_op rfl (op_call rfl rfl rfl co95 ((byTicks1_spec x y _).mono ?_))
   rintro _ _ ⟨rfl, rfl⟩
   refine qA rfl rfl rfl <| qN <| mwp_seq <| qR rfl <| qM rfl rfl rfl <| qC rfl rfl rfl rfl rfl <| qN ?_
   refine mwp_cond_split rfl (fun h31 => ?_) (fun h31 => ?_)
   ·
    refine mwp_seq <| qR rfl <| qM rfl rfl rfl <| qA rfl rfl rfl <| qN <| mwp_ret ?_
    exact ret_tmp (.inr rfl) Tryz.results94 rfl (.of_eq (by rw [← he, ticks_at hs hs2, if_pos (by simpa using h31)])) (.int _ _) ⟨rfl, rfl⟩
   ·
    refine mwp_skip <| qR rfl <| qO rfl <| op_arith rfl rfl rfl rfl <| qM rfl rfl rfl <| qN ?_
    refine ⟨i + 1, _, by omega, ⟨by omega, by omega, by rw [← he, ticks_at hs hs2, if_neg (by simpa using h31)]⟩, rfl, .nil, (.old rfl rfl (.old rfl rfl (.old rfl rfl (.old rfl rfl (.old rfl rfl (.nil)))))), (.new' rfl (int_succ hlt hlen) (.int _ _) (.nil))⟩
 ·
  have hge : i = a.length := by simp at h14; omega
  refine mwp_exit <| mwp_seq <| mwp_seq <| qR rfl <| qM rfl rfl rfl <| qE rfl rfl Tryz.underlying70 rfl <| qM rfl rfl rfl <| qE rfl rfl Tryz.underlying70 rfl <| qC rfl rfl rfl rfl rfl <| qN ?_
  refine mwp_cond_split rfl (fun h38 => ?_) (fun h38 => ?_)
  ·
   refine mwp_seq <| qR rfl <| qA rfl rfl rfl <| qN <| mwp_ret ?_
   exact ret_tmp (.inr rfl) Tryz.results94 rfl (.of_eq (by simp at h38; rw [← he, hge, List.drop_length, drop_at (List.getElem?_eq_getElem (by omega : a.length < b.length))]; rfl)) (.int _ _) ⟨rfl, rfl⟩
  ·
   refine mwp_skip <| mwp_seq <| qR rfl <| qA rfl rfl rfl <| qN <| mwp_ret ?_
   exact ret_tmp (.inr rfl) Tryz.results94 rfl (.of_eq (by simp at h38; rw [← he, hge, List.drop_length, List.drop_eq_nil_of_le (by omega : b.length ≤ a.length)]; rfl)) (.int _ _) ⟨rfl, rfl⟩
theorem byTicks_spec (a b : List Tk) (S : MS) : MCalls Tryz.prog 82 [.lst none 2 (a.map encT), .lst none 2 (b.map encT)] S fun v σ' => v = .int .i64 (byTicksF a b) ∧ σ' = S := by
 refine mcalls_body Tryz.func82 rfl Tryz.ntmps82 (Nat.le_of_ble_eq_true rfl) ?_
 refine mwp_seq <| qR rfl <| qA rfl rfl rfl <| qN <| mwp_seq <| qR rfl <| qM rfl rfl rfl <| qM rfl rfl rfl ?_
 refine wOps_op rfl (op_call rfl rfl rfl co94 ((cmpFuncT_spec a b _).mono ?_))
 rintro _ _ ⟨rfl, rfl⟩
 refine qA rfl rfl rfl <| qN <| mwp_ret ?_
 exact ret_tmp (.inr rfl) Tryz.results82 rfl (.of_eq (rfl)) (.int _ _) ⟨rfl, rfl⟩
theorem isCause_spec (l : List (List Tk)) (S : MS) : MCalls Tryz.prog 66 [.lst none 1 (l.map encC)] S fun v σ' => v = .bool (isCauseF l) ∧ σ' = S := by
 refine mcalls_body Tryz.func66 rfl Tryz.ntmps66 (Nat.le_of_ble_eq_true rfl) ?_
 refine mwp_len (t := 0) rfl fun hlen => ?_
 rw [List.length_map] at hlen
 refine mwp_seq <| qR rfl <| qO rfl <| op_alloc' rfl zm4 rfl rfl <| qN <| mwp_seq <| mwp_seq <| qR rfl <| qM rfl rfl rfl <| qE rfl rfl Tryz.underlying27 rfl <| qM rfl rfl rfl <| qN <| mwp_block ?_
 refine mwp_loopK (α := Nat) [(0, _), (2, _), (7, _), (8, _)] (fun i => [(9, .int .i64 (i : Int))]) (fun i => [.cells [.bool false]]) (fun i => i ≤ l.length ∧ (l.take i).all isClockF = true) (fun i => l.length - i) (0) (.keep rfl (.keep rfl (.keep rfl (.keep rfl (.nil))))) (.keep rfl (.nil)) (⟨by omega, rfl⟩) (rfl) ?_
 rintro i ⟨hi, hall⟩
 refine mwp_seq <| qR rfl <| qC rfl rfl rfl rfl rfl <| qN <| mwp_seq ?_
 refine mwp_cond_split rfl (fun h10 => ?_) (fun h10 => ?_)
 ·
  have hlt : i < l.length := by simpa using h10
  obtain ⟨c, hs⟩ : ∃ q_, l[i]? = some q_ := ⟨_, List.getElem?_eq_getElem hlt⟩
  refine mwp_skip <| mwp_seq <| mwp_block <| mwp_seq <| qR rfl <| qO rfl <| op_indexAddr rfl Tryz.underlying27 sz70 (by decide) rfl rfl rfl (get_map hs) ?_
  refine qO rfl <| op_load_sptr rfl rfl ta70 rfl <| qA rfl rfl rfl <| qN <| mwp_seq <| qR rfl <| qM rfl rfl rfl ?_
  refine wOps_op rfl (op_call rfl rfl rfl co65 ((clkIs_spec c _).mono ?_))
  rintro _ _ ⟨rfl, rfl⟩
  refine qO rfl <| op_not rfl rfl <| qN ?_
  refine mwp_cond_split rfl (fun h15 => ?_) (fun h15 => ?_)
  ·
   refine mwp_seq <| qR rfl <| qO rfl <| op_store' rfl rfl rfl rfl sz4 rfl rfl (Nat.le_of_ble_eq_true rfl) rfl <| qN <| mwp_ret ?_
   exact ret_cell (.inr rfl) Tryz.results66 rfl rfl ta4 rfl (.refl _) (.bool _) ⟨by rw [isCauseF, List.all_eq_false.2 ⟨c, List.mem_of_getElem? hs, by simpa using h15⟩]; rfl, rfl⟩
  ·
   refine mwp_skip <| qR rfl <| qO rfl <| op_arith rfl rfl rfl rfl <| qM rfl rfl rfl <| qN ?_
   refine ⟨i + 1, by omega, ⟨by omega, ?_⟩, rfl, (.keep rfl (.keep rfl (.keep rfl (.keep rfl (.nil))))), (.eq rfl (int_succ hlt hlen) (.nil))⟩
   rw [List.take_add_one, hs, List.all_append, hall]
   simpa using h15
 ·
  have hge : i = l.length := by simp at h10; omega
  rw [hge, List.take_length] at hall
  have hcl := hall
  refine mwp_exit <| mwp_seq <| mwp_seq <| qR rfl <| qM rfl rfl rfl ?_
  refine wOps_op rfl (op_call rfl rfl rfl co81 ((two_spec l _).mono ?_))
  rintro _ _ ⟨rfl, rfl⟩
  rw [List.append_assoc]
  refine qN <| mwp_block ?_
  refine mwp_rangeB (ok := fun σ => σ.length = S.length + 3 ∧ σ[(S ++ [MObj.cells [.bool false]]).length]? = some (.cells [.lst none 1 (l.map encC)])) (ys := (twoY l).map encP) .ret (.inl rfl) (fun j => (match (twoY l)[j]? with | some p => pairF p.1 p.2 | none => true)) (fun j => ([.cells [.bool false], .cells [.lst none 1 (l.map encC)]] : MS)) (fun j => ([.cells [.bool false], .cells [.lst none 1 (l.map encC)]] : MS)) (fun j => rfl) (fun j => rfl) rfl (fun j o ho n hn => by simp at ho; rcases ho with rfl | rfl <;> intro x hx <;> (simp at hx; subst hx; first | exact .bool _ | exact cl_texts _ _ | exact cl_clocks _ _)) (fun j o ho n hn => by simp at ho; rcases ho with rfl | rfl <;> intro x hx <;> (simp at hx; subst hx; first | exact .bool _ | exact cl_texts _ _ | exact cl_clocks _ _)) rfl co93 rfl (by simp) ((two_iter l hlen _ _).weak fun σ h => h.1) (fun j => ⟨by simp, get_box⟩) (fun j s q => ⟨by simp, get_box⟩) rfl (fun y hy => by obtain ⟨i, _, rfl⟩ := List.mem_map.1 hy; rfl) ?_ ?_ ?_
  ·
   intro j y hy hbef L'
   rw [List.getElem?_map] at hy
   obtain ⟨⟨a, b⟩, hp, rfl⟩ := Option.map_eq_some_iff.1 hy
   rw [hp]
   obtain ⟨ha, hb⟩ := two_mem (List.mem_of_getElem? hp)
   have la := clock_len (List.all_eq_true.1 hcl a ha)
   have lb := clock_len (List.all_eq_true.1 hcl b hb)
   refine mwp_seq <| qR rfl <| qA rfl rfl rfl <| qN <| qR rfl <| qA rfl rfl rfl <| qN ?_
   refine ⟨rfl, [], by rw [List.append_nil], ?_⟩
   rw [List.append_nil]
   refine mwp_block <| mwp_seq <| qR rfl <| qM rfl rfl rfl <| qM rfl rfl rfl ?_
   refine wOps_op rfl (op_call rfl rfl rfl co82 ((byTicks_spec a b _).mono ?_))
   rintro _ _ ⟨rfl, rfl⟩
   refine qC rfl rfl rfl rfl rfl <| qM rfl rfl rfl ?_
   refine wOps_case (fun h25 => ?_) (fun h25 => ?_)
   ·
    refine qS rfl <| qS rfl <| qS rfl <| qS rfl <| qP rfl rfl rfl rfl <| qN <| mwp_cond_t rfl (rfl) <| mwp_seq <| qR rfl <| qO rfl <| op_store_mid rfl rfl rfl rfl sz4 rfl rfl (Nat.le_of_ble_eq_true rfl) rfl <| qN <| mwp_ret ?_
    exact .inr ⟨by simp only [pairF]; simp_all <;> (intros; omega), rfl, [], by rw [List.append_nil]; rfl⟩
   ·
    refine qM rfl rfl rfl <| qM rfl rfl rfl ?_
    refine wOps_op rfl (op_call rfl rfl rfl co83 ((clkCmp_spec a b (by omega) _).mono ?_))
    rintro _ _ ⟨rfl, rfl⟩
    refine qC rfl rfl rfl rfl rfl <| qP rfl rfl rfl rfl <| qN ?_
    refine mwp_cond_split rfl (fun h30 => ?_) (fun h30 => ?_)
    ·
     refine mwp_seq <| qR rfl <| qO rfl <| op_store_mid rfl rfl rfl rfl sz4 rfl rfl (Nat.le_of_ble_eq_true rfl) rfl <| qN <| mwp_ret ?_
     exact .inr ⟨by simp only [pairF]; simp_all <;> (intros; omega), rfl, [], by rw [List.append_nil]; rfl⟩
    ·
     refine mwp_skip ?_
     exact .inl ⟨by simp only [pairF]; simp_all, rfl, [], by rw [List.append_nil]⟩
  ·
   intro hall2
   rw [List.append_assoc]
   have hr : isCauseF l = true := by
    rw [isCauseF, hcl, Bool.true_and, two_iff]
    intro p hp
    obtain ⟨j, hj, rfl⟩ := List.mem_iff_getElem.1 hp
    have := hall2 j (by rw [List.length_map]; exact hj)
    rw [List.getElem?_eq_getElem hj] at this
    exact this
   refine mwp_seq <| qR rfl <| qO rfl <| op_store' rfl rfl rfl rfl sz4 rfl rfl (Nat.le_of_ble_eq_true rfl) rfl <| qN <| mwp_ret ?_
   exact ret_cell (.inr rfl) Tryz.results66 rfl rfl ta4 rfl (.refl _) (.bool _) ⟨by rw [hr], rfl⟩
  ·
   intro j y hy hp
   rw [List.getElem?_map] at hy
   obtain ⟨⟨a, b⟩, hq, rfl⟩ := Option.map_eq_some_iff.1 hy
   rw [hq] at hp
   replace hp : pairF a b = false := hp
   have hr : isCauseF l = false := by
    rw [isCauseF, hcl, Bool.true_and]
    cases h : pairsF l with
    | false => rfl
    | true =>
     have : pairF a b = true := (two_iff l).1 h _ (List.mem_of_getElem? hq)
     rw [this] at hp
     cases hp
   rw [List.append_assoc]
   exact ret_cell (.inr rfl) Tryz.results66 rfl rfl ta4 rfl (.refl _) (.bool _) ⟨by rw [hr], rfl⟩
end Go.Proofs.YthkikhggmbiffaaGreat
end
section
set_option linter.unusedVariables false
set_option linter.unusedSimpArgs false
set_option maxRecDepth 20000
set_option maxHeartbeats 400000
namespace Go.Proofs.YthkikhggmbiffaaGreat
open Go Go.MV
theorem one_of {α : Type} {s : List α} (h : s.length = 1) : ∃ t, s = [t] := by
 match s, h with
 | [t], _ => exact ⟨t, rfl⟩
theorem two_of' {α : Type} {s : List α} (h : s.length = 2) : ∃ t u, s = [t, u] := by
 match s, h with
 | [t, u], _ => exact ⟨t, u, rfl⟩
theorem last_no {n m : Int} {s : List Bs} (h : ¬ s = []) (h1 : ¬ s.length = 1) : isLastF n m s = false := by
 match s, h, h1 with
 | [], h, _ => exact absurd rfl h
 | [t], _, h => exact absurd rfl h
 | _ :: _ :: _, _, _ => rfl
theorem one_ins {k : Int} {ins : List Sch} (h : partsF k = (ins.length : Int)) (hk : partsF k = 1) : ∃ t, ins = [t] := one_of (by omega)
theorem isB_mk {k : Int} {ins : List Sch} {fs : List (Val → Bool)} {n m : Int} {s : List Bs} {c : List (List Tk)} {w : List Val} : isB k ins fs (.mk n m s c w) = (bareF k (.mk n m s c w) && decide (w.length ≤ 40) && decide (c.length ≤ 40) &&
 (if k = 1 then true else if k = 2 then decide (n ≤ 1) else if k = 3 then isRowF s
  else if k = 4 then isRowF s && decide (s.length = w.length) && w.all (fun x => fs.headD (fun _ => false) x && !noneF (ins.headD default) x)
  else if k = 5 then (match w with | [x, y] => fs.headD (fun _ => false) x && fs.tail.headD (fun _ => false) y | _ => false)
  else if k = 6 then isLastF n m s
  else if k = 7 then (match c with | [] => true | [c] => decide (0 < c.length) && isClockF c | _ => false)
  else decide (c.length = w.length) && isCauseF c && w.all (fs.headD (fun _ => false)))) := rfl
theorem isVF_mk {ins : List Sch} {n m : Int} {s : List Bs} {c : List (List Tk)} {w : List Val} (k : Int) : isVF (.mk k ins) (.mk n m s c w) = (bareF k (.mk n m s c w) && decide (w.length ≤ 40) && decide (c.length ≤ 40) &&
 (if k = 1 then true else if k = 2 then decide (n ≤ 1) else if k = 3 then isRowF s
  else if k = 4 then isRowF s && decide (s.length = w.length) && w.all (fun x => (isVL ins).headD (fun _ => false) x && !noneF (ins.headD default) x)
  else if k = 5 then (match w with | [x, y] => (isVL ins).headD (fun _ => false) x && (isVL ins).tail.headD (fun _ => false) y | _ => false)
  else if k = 6 then isLastF n m s
  else if k = 7 then (match c with | [] => true | [c] => decide (0 < c.length) && isClockF c | _ => false)
  else decide (c.length = w.length) && isCauseF c && w.all ((isVL ins).headD (fun _ => false)))) := by rw [isVF, isB_mk]
theorem match2_no {f g : Val → Bool} {w : List Val} : w.length ≠ 2 → (match w with | [x, y] => f x && g y | _ => false) = false := by
 intro h
 match w, h with
 | [], _ => rfl
 | [_], _ => rfl
 | [_, _], h => exact absurd rfl h
 | _ :: _ :: _ :: _, _ => rfl
theorem match1_no {c : List (List Tk)} : ¬ c = [] → c.length ≠ 1 → (match c with | [] => true | [c] => decide (0 < c.length) && isClockF c | _ => false) = false := by
 intro h0 h
 match c, h0, h with
 | [], h, _ => exact absurd rfl h
 | [_], _, h => exact absurd rfl h
 | _ :: _ :: _, _, _ => rfl
theorem k8_of {k : Int} {n : Nat} (h : partsF k = (n : Int)) : k = 1 ∨ k = 2 ∨ k = 3 ∨ k = 4 ∨ k = 5 ∨ k = 6 ∨ k = 7 ∨ k = 8 := by
 unfold partsF at h
 split at h
 ·omega
 ·split at h
  ·omega
  ·split at h <;> omega
theorem short_any (l : List Bs) : (!(l.any fun s => decide (16 < s.length))) = shortF l := by
 unfold shortF
 rw [Bool.eq_iff_iff]
 simp
theorem any_all {l : List Val} {f g : Val → Bool} : (!(l.any fun x => !f x || g x)) = l.all fun x => f x && !g x := by
 rw [Bool.eq_iff_iff]
 simp
theorem any_all' {l : List Val} {f : Val → Bool} : (!(l.any fun x => !f x)) = l.all f := by
 rw [Bool.eq_iff_iff]
 simp
theorem xIndex_spec (S : MS) (l : List Bs) (p : Bs → Bool) (kf : FuncId) (first caps : List MV) (hco : CallOk Tryz.prog kf) (hp : ∀ x ∈ l, ∀ X : MS, MCalls Tryz.prog kf (first ++ [encX x] ++ caps) (S ++ X) fun v σ' => v = .bool (p x) ∧ σ' = S ++ X) : MCalls Tryz.prog 87 [.lst none 1 (l.map encX), .fn (.func kf) first caps] S fun v σ' => v = .int .i64 (findGo p 0 l) ∧ σ' = S := by
 refine mcalls_body Tryz.func87 rfl Tryz.ntmps87 (Nat.le_of_ble_eq_true rfl) ?_
 refine mwp_len (t := 0) rfl fun hlen => ?_
 rw [List.length_map] at hlen
 refine mwp_seq <| qR rfl <| qA rfl rfl rfl <| qN <| mwp_seq <| mwp_seq <| qR rfl <| qM rfl rfl rfl <| qE rfl rfl Tryz.underlying26 rfl <| qM rfl rfl rfl <| qN <| mwp_block ?_
 refine mwp_loopK (α := Nat) [(0, _), (1, _), (7, _)] (fun i => [(8, .int .i64 (i : Int))]) (fun i => []) (fun i => i ≤ l.length ∧ findGo p i (l.drop i) = findGo p 0 l) (fun i => l.length - i) (0) (.keep rfl (.keep rfl (.keep rfl (.nil)))) (.keep rfl (.nil)) (⟨by omega, rfl⟩) (rfl) ?_
 rintro i ⟨hi, he⟩
 refine mwp_seq <| qR rfl <| qC rfl rfl rfl rfl rfl <| qN <| mwp_seq ?_
 refine mwp_cond_split rfl (fun h9 => ?_) (fun h9 => ?_)
 ·
  rw [List.length_map] at h9
  have hlt : i < l.length := by simpa using h9
  obtain ⟨x, hs⟩ : ∃ x, l[i]? = some x := ⟨_, List.getElem?_eq_getElem hlt⟩
  refine mwp_skip <| mwp_seq <| mwp_block <| mwp_seq <| qR rfl <| qM rfl rfl rfl <| qA rfl rfl rfl <| qN <| mwp_seq <| qR rfl <| qM rfl rfl rfl <| qM rfl rfl rfl <| qM rfl rfl rfl <| qO rfl <| op_indexAddr rfl Tryz.underlying26 sz9 (by decide) rfl rfl rfl (get_map hs) ?_
  refine qO rfl <| op_load_sptr rfl rfl ta9 rfl ?_
  refine wOps_op rfl (op_call rfl rfl rfl hco ((hp _ (List.mem_of_getElem? hs) _).mono ?_))
  rintro _ _ ⟨rfl, rfl⟩
  refine qN ?_
  refine mwp_cond_split rfl (fun h16 => ?_) (fun h16 => ?_)
  ·
   refine mwp_seq <| qR rfl <| qM rfl rfl rfl <| qA rfl rfl rfl <| qN <| mwp_ret ?_
   exact ret_tmp (.inr rfl) Tryz.results87 rfl (.of_eq (by rw [← he, find_at hs, h16]; rfl)) (.int _ _) ⟨rfl, rfl⟩
  ·
   refine mwp_skip <| qR rfl <| qO rfl <| op_arith rfl rfl rfl rfl <| qM rfl rfl rfl <| qN ?_
   refine ⟨i + 1, by omega, ⟨by omega, by rw [← he, find_at hs, h16]; rfl⟩, rfl, (.keep rfl (.keep rfl (.keep rfl (.nil)))), (.eq rfl (int_succ hlt hlen) (.nil))⟩
 ·
  rw [List.length_map] at h9
  have hge : i = l.length := by simp at h9; omega
  refine mwp_exit <| mwp_seq <| qR rfl <| qA rfl rfl rfl <| qN <| mwp_ret ?_
  exact ret_tmp (.inr rfl) Tryz.results87 rfl (.of_eq (by rw [← he, hge, List.drop_length]; rfl)) (.int _ _) ⟨rfl, rfl⟩
theorem xContains_spec (S : MS) (l : List Bs) (p : Bs → Bool) (kf : FuncId) (first caps : List MV) (hco : CallOk Tryz.prog kf) (hp : ∀ x ∈ l, ∀ X : MS, MCalls Tryz.prog kf (first ++ [encX x] ++ caps) (S ++ X) fun v σ' => v = .bool (p x) ∧ σ' = S ++ X) : MCalls Tryz.prog 76 [.lst none 1 (l.map encX), .fn (.func kf) first caps] S fun v σ' => v = .bool (l.any p) ∧ σ' = S := by
 refine mcalls_body Tryz.func76 rfl Tryz.ntmps76 (Nat.le_of_ble_eq_true rfl) ?_
 refine mwp_seq <| qR rfl <| qA rfl rfl rfl <| qN <| mwp_seq <| qR rfl <| qM rfl rfl rfl <| qM rfl rfl rfl ?_
 refine wOps_op rfl (op_call rfl rfl rfl co87 ((xIndex_spec (S ++ []) l p kf first caps hco (by rw [List.append_nil]; exact hp)).mono ?_))
 rintro _ _ ⟨rfl, rfl⟩
 refine qC rfl rfl rfl rfl rfl <| qA rfl rfl rfl <| qN <| mwp_ret ?_
 exact ret_tmp (.inr rfl) Tryz.results76 rfl (.of_eq (by rw [find_any p 0 l])) (.bool _) ⟨rfl, rfl⟩
theorem vIndex_spec (S : MS) (l : List Val) (p : Val → Bool) (kf : FuncId) (first caps : List MV) (hco : CallOk Tryz.prog kf) (hp : ∀ x ∈ l, ∀ X : MS, MCalls Tryz.prog kf (first ++ [encV x] ++ caps) (S ++ X) fun v σ' => v = .bool (p x) ∧ σ' = S ++ X) : MCalls Tryz.prog 78 [.lst none 5 (encVs l), .fn (.func kf) first caps] S fun v σ' => v = .int .i64 (findGo p 0 l) ∧ σ' = S := by
 refine mcalls_body Tryz.func78 rfl Tryz.ntmps78 (Nat.le_of_ble_eq_true rfl) ?_
 refine mwp_len (t := 0) rfl fun hlen => ?_
 rw [encVs_length] at hlen
 refine mwp_seq <| qR rfl <| qA rfl rfl rfl <| qN <| mwp_seq <| mwp_seq <| qR rfl <| qM rfl rfl rfl <| qE rfl rfl Tryz.underlying28 rfl <| qM rfl rfl rfl <| qN <| mwp_block ?_
 refine mwp_loopK (α := Nat) [(0, _), (1, _), (7, _)] (fun i => [(8, .int .i64 (i : Int))]) (fun i => []) (fun i => i ≤ l.length ∧ findGo p i (l.drop i) = findGo p 0 l) (fun i => l.length - i) (0) (.keep rfl (.keep rfl (.keep rfl (.nil)))) (.keep rfl (.nil)) (⟨by omega, rfl⟩) (rfl) ?_
 rintro i ⟨hi, he⟩
 refine mwp_seq <| qR rfl <| qC rfl rfl rfl rfl rfl <| qN <| mwp_seq ?_
 refine mwp_cond_split rfl (fun h9 => ?_) (fun h9 => ?_)
 ·
  rw [encVs_length] at h9
  have hlt : i < l.length := by simpa using h9
  obtain ⟨x, hs⟩ : ∃ x, l[i]? = some x := ⟨_, List.getElem?_eq_getElem hlt⟩
  obtain ⟨n1, m1, s1, c1, w1⟩ := x
  refine mwp_skip <| mwp_seq <| mwp_block <| mwp_seq <| qR rfl <| qM rfl rfl rfl <| qA rfl rfl rfl <| qN <| mwp_seq <| qR rfl <| qM rfl rfl rfl <| qM rfl rfl rfl <| qM rfl rfl rfl <| qO rfl <| op_indexAddr rfl Tryz.underlying28 sz30 (by decide) rfl rfl rfl (encVs_get hs) ?_
  refine qO rfl <| op_load_sptr rfl rfl ta30 rfl ?_
  refine wOps_op rfl (op_call rfl rfl rfl hco ((hp _ (List.mem_of_getElem? hs) _).mono ?_))
  rintro _ _ ⟨rfl, rfl⟩
  refine qN ?_
  refine mwp_cond_split rfl (fun h16 => ?_) (fun h16 => ?_)
  ·
   refine mwp_seq <| qR rfl <| qM rfl rfl rfl <| qA rfl rfl rfl <| qN <| mwp_ret ?_
   exact ret_tmp (.inr rfl) Tryz.results78 rfl (.of_eq (by rw [← he, find_at hs, h16]; rfl)) (.int _ _) ⟨rfl, rfl⟩
  ·
   refine mwp_skip <| qR rfl <| qO rfl <| op_arith rfl rfl rfl rfl <| qM rfl rfl rfl <| qN ?_
   refine ⟨i + 1, by omega, ⟨by omega, by rw [← he, find_at hs, h16]; rfl⟩, rfl, (.keep rfl (.keep rfl (.keep rfl (.nil)))), (.eq rfl (int_succ hlt hlen) (.nil))⟩
 ·
  rw [encVs_length] at h9
  have hge : i = l.length := by simp at h9; omega
  refine mwp_exit <| mwp_seq <| qR rfl <| qA rfl rfl rfl <| qN <| mwp_ret ?_
  exact ret_tmp (.inr rfl) Tryz.results78 rfl (.of_eq (by rw [← he, hge, List.drop_length]; rfl)) (.int _ _) ⟨rfl, rfl⟩
theorem vContains_spec (S : MS) (l : List Val) (p : Val → Bool) (kf : FuncId) (first caps : List MV) (hco : CallOk Tryz.prog kf) (hp : ∀ x ∈ l, ∀ X : MS, MCalls Tryz.prog kf (first ++ [encV x] ++ caps) (S ++ X) fun v σ' => v = .bool (p x) ∧ σ' = S ++ X) : MCalls Tryz.prog 61 [.lst none 5 (encVs l), .fn (.func kf) first caps] S fun v σ' => v = .bool (l.any p) ∧ σ' = S := by
 refine mcalls_body Tryz.func61 rfl Tryz.ntmps61 (Nat.le_of_ble_eq_true rfl) ?_
 refine mwp_seq <| qR rfl <| qA rfl rfl rfl <| qN <| mwp_seq <| qR rfl <| qM rfl rfl rfl <| qM rfl rfl rfl ?_
 refine wOps_op rfl (op_call rfl rfl rfl co78 ((vIndex_spec (S ++ []) l p kf first caps hco (by rw [List.append_nil]; exact hp)).mono ?_))
 rintro _ _ ⟨rfl, rfl⟩
 refine qC rfl rfl rfl rfl rfl <| qA rfl rfl rfl <| qN <| mwp_ret ?_
 exact ret_tmp (.inr rfl) Tryz.results61 rfl (.of_eq (by rw [find_any p 0 l])) (.bool _) ⟨rfl, rfl⟩
theorem isRow1_spec (s : Bs) (S : MS) : MCalls Tryz.prog 77 [.str (bs s)] S fun v σ' => v = .bool (decide (16 < s.length)) ∧ σ' = S := by
 refine mcalls_body Tryz.func77 rfl Tryz.ntmps77 (Nat.le_of_ble_eq_true rfl) ?_
 refine mwp_seq <| qR rfl <| qA rfl rfl rfl <| qN <| mwp_seq <| qR rfl <| qM rfl rfl rfl <| qO rfl <| op_len_bs rfl Tryz.underlying9 rfl <| qC rfl rfl rfl rfl rfl <| qA rfl rfl rfl <| qN <| mwp_ret ?_
 exact ret_tmp (.inr rfl) Tryz.results77 rfl (.of_eq (by congr 1; rw [Bool.eq_iff_iff]; simp; omega)) (.bool _) ⟨rfl, rfl⟩
theorem isRow_spec (l : List Bs) (S : MS) : MCalls Tryz.prog 60 [.lst none 1 (l.map encX)] S fun v σ' => v = .bool (isRowF l) ∧ σ' = S := by
 refine mcalls_body Tryz.func60 rfl Tryz.ntmps60 (Nat.le_of_ble_eq_true rfl) ?_
 refine mwp_seq <| qR rfl <| qA rfl rfl rfl <| qN <| mwp_seq <| qR rfl <| qM rfl rfl rfl <| qE rfl rfl Tryz.underlying26 rfl <| qC rfl rfl rfl rfl rfl <| qM rfl rfl rfl ?_
 refine wOps_case (fun h6 => ?_) (fun h6 => ?_)
 ·
  refine qM rfl rfl rfl ?_
  refine wOps_op rfl (op_call rfl rfl rfl co75 ((rowsIs_spec l _).mono ?_))
  rintro _ _ ⟨rfl, rfl⟩
  refine qP rfl rfl rfl rfl <| qM rfl rfl rfl ?_
  refine wOps_case (fun h10 => ?_) (fun h10 => ?_)
  ·
   refine qM rfl rfl rfl ?_
   refine wOps_op rfl (op_call rfl rfl rfl co76 ((xContains_spec _ l (fun s => decide (16 < s.length)) _ [] [] co77 (fun x _ X => isRow1_spec x _)).mono ?_))
   rintro _ _ ⟨rfl, rfl⟩
   refine qO rfl <| op_not rfl rfl <| qP rfl rfl rfl rfl <| qA rfl rfl rfl <| qN <| mwp_ret ?_
   exact ret_tmp (.inr rfl) Tryz.results60 rfl (.of_eq (by congr 1; unfold isRowF; rw [← short_any, Bool.eq_iff_iff]; simp_all <;> omega)) (.bool _) ⟨rfl, rfl⟩
  ·
   refine qS rfl <| qS rfl <| qS rfl <| qP rfl rfl rfl rfl <| qA rfl rfl rfl <| qN <| mwp_ret ?_
   exact ret_tmp (.inr rfl) Tryz.results60 rfl (.of_eq (by congr 1; unfold isRowF; rw [← short_any, Bool.eq_iff_iff]; simp_all <;> omega)) (.bool _) ⟨rfl, rfl⟩
 ·
  refine qS rfl <| qS rfl <| qP rfl rfl rfl rfl <| qM rfl rfl rfl <| qS rfl <| qS rfl <| qS rfl <| qP rfl rfl rfl rfl <| qA rfl rfl rfl <| qN <| mwp_ret ?_
  exact ret_tmp (.inr rfl) Tryz.results60 rfl (.of_eq (by congr 1; unfold isRowF; rw [← short_any, Bool.eq_iff_iff]; simp_all <;> omega)) (.bool _) ⟨rfl, rfl⟩
theorem isLast_spec (n m : Int) (s : List Bs) (c : List (List Tk)) (w : List Val) (hn : 0 ≤ n) (hm : 0 ≤ m) (S : MS) : MCalls Tryz.prog 64 [encV (.mk n m s c w)] S fun v σ' => v = .bool (isLastF n m s) ∧ σ' = S := by
 refine mcalls_body Tryz.func64 rfl Tryz.ntmps64 (Nat.le_of_ble_eq_true rfl) ?_
 refine mwp_seq <| qR rfl <| qB rfl rfl rfl rfl rfl <| qA rfl rfl rfl <| qN <| mwp_seq <| mwp_seq <| qR rfl <| qF rfl rfl rfl fo30_2 <| qL rfl rfl rfl rfl ta26 rfl <| qE rfl rfl Tryz.underlying26 rfl <| qC rfl rfl rfl rfl rfl <| qN ?_
 refine mwp_cond_split rfl (fun h6 => ?_) (fun h6 => ?_)
 ·
  have hs0 : s = [] := by simpa using h6
  subst hs0
  refine mwp_seq <| qR rfl <| qF rfl rfl rfl fo30_0 <| qL rfl rfl rfl rfl ta25 rfl <| qC rfl rfl rfl rfl rfl <| qM rfl rfl rfl ?_
  refine wOps_case (fun h10 => ?_) (fun h10 => ?_)
  ·
   refine qF rfl rfl rfl fo30_1 <| qL rfl rfl rfl rfl ta25 rfl <| qC rfl rfl rfl rfl rfl <| qP rfl rfl rfl rfl <| qA rfl rfl rfl <| qN <| mwp_ret ?_
   exact ret_tmp (.inr rfl) Tryz.results64 rfl (.of_eq (by first | (rw [hF]; done) | (congr 1; rw [Bool.eq_iff_iff]; simp_all [isLastF]; done) | (congr 1; rw [Bool.eq_iff_iff]; simp_all [isLastF]; omega))) (.bool _) ⟨rfl, rfl⟩
  ·
   refine qS rfl <| qS rfl <| qS rfl <| qP rfl rfl rfl rfl <| qA rfl rfl rfl <| qN <| mwp_ret ?_
   exact ret_tmp (.inr rfl) Tryz.results64 rfl (.of_eq (by first | (rw [hF]; done) | (congr 1; rw [Bool.eq_iff_iff]; simp_all [isLastF]; done) | (congr 1; rw [Bool.eq_iff_iff]; simp_all [isLastF]; omega))) (.bool _) ⟨rfl, rfl⟩
 ·
  have hs0 : ¬ s = [] := by simpa using h6
  refine mwp_skip <| mwp_seq <| qR rfl <| qF rfl rfl rfl fo30_2 <| qL rfl rfl rfl rfl ta26 rfl <| qE rfl rfl Tryz.underlying26 rfl <| qC rfl rfl rfl rfl rfl <| qM rfl rfl rfl ?_
  refine wOps_case (fun h19 => ?_) (fun h19 => ?_)
  ·
   obtain ⟨t, rfl⟩ := one_of (by rw [List.length_map] at h19; simp at h19; omega : s.length = 1)
   refine qF rfl rfl rfl fo30_2 <| qL rfl rfl rfl rfl ta26 rfl <| qO rfl <| op_indexAddr rfl Tryz.underlying26 sz9 (by decide) rfl rfl rfl (show _ = some (encX t) from rfl) ?_
   refine qO rfl <| op_load_sptr rfl rfl ta9 rfl <| qO rfl <| op_len_bs rfl Tryz.underlying9 rfl <| qC rfl rfl rfl rfl rfl <| qP rfl rfl rfl rfl <| qM rfl rfl rfl ?_
   refine wOps_case (fun h27 => ?_) (fun h27 => ?_)
   ·
    have h27n : t.length ≤ 16 := by simp at h27; omega
    refine qF rfl rfl rfl fo30_0 <| qL rfl rfl rfl rfl ta25 rfl <| qC rfl rfl rfl rfl rfl <| qM rfl rfl rfl ?_
    refine wOps_case (fun h31 => ?_) (fun h31 => ?_)
    ·
     refine qS rfl <| qS rfl <| qS rfl <| qP rfl rfl rfl rfl <| qM rfl rfl rfl <| qS rfl <| qS rfl <| qS rfl <| qS rfl <| qS rfl <| qP rfl rfl rfl rfl <| qP rfl rfl rfl rfl <| qA rfl rfl rfl <| qN <| mwp_ret ?_
     exact ret_tmp (.inr rfl) Tryz.results64 rfl (.of_eq (by first | (rw [hF]; done) | (congr 1; rw [Bool.eq_iff_iff]; simp_all [isLastF]; done) | (congr 1; rw [Bool.eq_iff_iff]; simp_all [isLastF]; omega))) (.bool _) ⟨rfl, rfl⟩
    ·
     have hn0 : n = 0 := by simp at h31; omega
     subst hn0
     refine qF rfl rfl rfl fo30_1 <| qL rfl rfl rfl rfl ta25 rfl <| qC rfl rfl rfl rfl rfl <| qP rfl rfl rfl rfl <| qM rfl rfl rfl ?_
     refine wOps_case (fun h36 => ?_) (fun h36 => ?_)
     ·
      refine qS rfl <| qS rfl <| qS rfl <| qS rfl <| qS rfl <| qP rfl rfl rfl rfl <| qP rfl rfl rfl rfl <| qA rfl rfl rfl <| qN <| mwp_ret ?_
      exact ret_tmp (.inr rfl) Tryz.results64 rfl (.of_eq (by first | (rw [hF]; done) | (congr 1; rw [Bool.eq_iff_iff]; simp_all [isLastF]; done) | (congr 1; rw [Bool.eq_iff_iff]; simp_all [isLastF]; omega))) (.bool _) ⟨rfl, rfl⟩
     ·
      have hm0 : m = 0 := by simp at h36; omega
      subst hm0
      refine qF rfl rfl rfl fo30_2 <| qL rfl rfl rfl rfl ta26 rfl <| qO rfl <| op_indexAddr rfl Tryz.underlying26 sz9 (by decide) rfl rfl rfl (show _ = some (encX t) from rfl) ?_
      refine qO rfl <| op_load_sptr rfl rfl ta9 rfl <| qO rfl <| op_strcmp rfl rfl rfl rfl <| qP rfl rfl rfl rfl <| qP rfl rfl rfl rfl <| qA rfl rfl rfl <| qN <| mwp_ret ?_
      exact ret_tmp (.inr rfl) Tryz.results64 rfl (.of_eq (by first | (rw [hF]; done) | (congr 1; rw [Bool.eq_iff_iff]; simp_all [isLastF]; done) | (congr 1; rw [Bool.eq_iff_iff]; simp_all [isLastF]; omega))) (.bool _) ⟨rfl, rfl⟩
   ·
    refine qS rfl <| qS rfl <| qS rfl <| qS rfl <| qS rfl <| qS rfl <| qS rfl <| qS rfl <| qS rfl <| qS rfl <| qS rfl <| qS rfl <| qS rfl <| qS rfl <| qS rfl <| qP rfl rfl rfl rfl <| qA rfl rfl rfl <| qN <| mwp_ret ?_
    exact ret_tmp (.inr rfl) Tryz.results64 rfl (.of_eq (by first | (rw [hF]; done) | (congr 1; rw [Bool.eq_iff_iff]; simp_all [isLastF]; done) | (congr 1; rw [Bool.eq_iff_iff]; simp_all [isLastF]; omega))) (.bool _) ⟨rfl, rfl⟩
  ·
   have hF : isLastF n m s = false := last_no hs0 (fun e => by rw [List.length_map, e] at h19; simp at h19)
   refine qS rfl <| qS rfl <| qS rfl <| qS rfl <| qS rfl <| qS rfl <| qP rfl rfl rfl rfl <| qM rfl rfl rfl <| qS rfl <| qS rfl <| qS rfl <| qS rfl <| qS rfl <| qS rfl <| qS rfl <| qS rfl <| qS rfl <| qS rfl <| qS rfl <| qS rfl <| qS rfl <| qS rfl <| qS rfl <| qP rfl rfl rfl rfl <| qA rfl rfl rfl <| qN ?_
   refine mwp_ret ?_
   exact ret_tmp (.inr rfl) Tryz.results64 rfl (.of_eq (by first | (rw [hF]; done) | (congr 1; rw [Bool.eq_iff_iff]; simp_all [isLastF]; done) | (congr 1; rw [Bool.eq_iff_iff]; simp_all [isLastF]; omega))) (.bool _) ⟨rfl, rfl⟩
theorem bare_spec (k : Int) (hk : k = 1 ∨ k = 2 ∨ k = 3 ∨ k = 4 ∨ k = 5 ∨ k = 6 ∨ k = 7 ∨ k = 8) (n m : Int) (s : List Bs) (c : List (List Tk)) (w : List Val) (S : MS) : MCalls Tryz.prog 58 [.int .i64 k, encV (.mk n m s c w)] S fun v σ' => v = .bool (bareF k (.mk n m s c w)) ∧ σ' = S := by
 rcases hk with rfl | rfl | rfl | rfl | rfl | rfl | rfl | rfl
 ·
  refine mcalls_body Tryz.func58 rfl Tryz.ntmps58 (Nat.le_of_ble_eq_true rfl) ?_
  refine mwp_seq <| qR rfl <| qB rfl rfl rfl rfl rfl <| qA rfl rfl rfl <| qN <| mwp_seq <| qR rfl <| qM rfl rfl rfl <| qC rfl rfl rfl rfl rfl <| qM rfl rfl rfl <| qS rfl <| qS rfl <| qP rfl rfl rfl rfl <| qM rfl rfl rfl <| qS rfl <| qS rfl <| qP rfl rfl rfl rfl <| qA rfl rfl rfl <| qN <| mwp_seq <| qR rfl ?_
  refine qM rfl rfl rfl <| qC rfl rfl rfl rfl rfl <| qM rfl rfl rfl <| qM rfl rfl rfl <| qC rfl rfl rfl rfl rfl <| qP rfl rfl rfl rfl <| qM rfl rfl rfl <| qM rfl rfl rfl <| qC rfl rfl rfl rfl rfl <| qP rfl rfl rfl rfl <| qA rfl rfl rfl <| qN <| mwp_seq <| qR rfl <| qM rfl rfl rfl <| qC rfl rfl rfl rfl rfl <| qM rfl rfl rfl ?_
  refine qM rfl rfl rfl <| qC rfl rfl rfl rfl rfl <| qP rfl rfl rfl rfl <| qA rfl rfl rfl <| qN <| mwp_seq <| qR rfl <| qM rfl rfl rfl <| qC rfl rfl rfl rfl rfl <| qM rfl rfl rfl <| qM rfl rfl rfl <| qC rfl rfl rfl rfl rfl <| qP rfl rfl rfl rfl <| qM rfl rfl rfl <| qM rfl rfl rfl <| qC rfl rfl rfl rfl rfl <| qP rfl rfl rfl rfl ?_
  refine qA rfl rfl rfl <| qN <| mwp_seq <| qR rfl <| qM rfl rfl rfl <| qM rfl rfl rfl <| qS rfl <| qS rfl <| qS rfl <| qP rfl rfl rfl rfl <| qM rfl rfl rfl <| qM rfl rfl rfl <| qC rfl rfl rfl rfl rfl <| qM rfl rfl rfl <| qF rfl rfl rfl fo30_1 <| qL rfl rfl rfl rfl ta25 rfl <| qC rfl rfl rfl rfl rfl <| qP rfl rfl rfl rfl ?_
  refine qP rfl rfl rfl rfl <| qM rfl rfl rfl ?_
  refine wOps_case (fun h60 => ?_) (fun h60 => ?_)
  ·
   refine qM rfl rfl rfl <| qM rfl rfl rfl <| qF rfl rfl rfl fo30_2 <| qL rfl rfl rfl rfl ta26 rfl <| qE rfl rfl Tryz.underlying26 rfl <| qC rfl rfl rfl rfl rfl <| qP rfl rfl rfl rfl <| qP rfl rfl rfl rfl <| qM rfl rfl rfl ?_
   refine wOps_case (fun h69 => ?_) (fun h69 => ?_)
   ·
    refine qM rfl rfl rfl <| qM rfl rfl rfl <| qF rfl rfl rfl fo30_3 <| qL rfl rfl rfl rfl ta27 rfl <| qE rfl rfl Tryz.underlying27 rfl <| qC rfl rfl rfl rfl rfl <| qP rfl rfl rfl rfl <| qP rfl rfl rfl rfl <| qM rfl rfl rfl ?_
    refine wOps_case (fun h78 => ?_) (fun h78 => ?_)
    ·
     refine qM rfl rfl rfl <| qM rfl rfl rfl <| qF rfl rfl rfl fo30_4 <| qL rfl rfl rfl rfl ta28 rfl <| qE rfl rfl Tryz.underlying28 rfl ?_
     try rw [encVs_length]
     refine qC rfl rfl rfl rfl rfl <| qP rfl rfl rfl rfl <| qP rfl rfl rfl rfl <| qA rfl rfl rfl <| qN <| mwp_ret ?_
     exact ret_tmp (.inr rfl) Tryz.results58 rfl (.of_eq (by congr 1; rw [Bool.eq_iff_iff]; simp_all [bareF, numsK, textsK, clocksK, valuesK, Val.nv, Val.mv, Val.sv, Val.cv, Val.vv])) (.bool _) ⟨rfl, rfl⟩
    ·
     refine qS rfl <| qS rfl <| qS rfl <| qS rfl <| qS rfl <| qS rfl <| qS rfl <| qP rfl rfl rfl rfl <| qA rfl rfl rfl <| qN <| mwp_ret ?_
     exact ret_tmp (.inr rfl) Tryz.results58 rfl (.of_eq (by congr 1; rw [Bool.eq_iff_iff]; simp_all [bareF, numsK, textsK, clocksK, valuesK, Val.nv, Val.mv, Val.sv, Val.cv, Val.vv])) (.bool _) ⟨rfl, rfl⟩
   ·
    refine qS rfl <| qS rfl <| qS rfl <| qS rfl <| qS rfl <| qS rfl <| qS rfl <| qP rfl rfl rfl rfl <| qM rfl rfl rfl <| qS rfl <| qS rfl <| qS rfl <| qS rfl <| qS rfl <| qS rfl <| qS rfl <| qP rfl rfl rfl rfl <| qA rfl rfl rfl <| qN <| mwp_ret ?_
    exact ret_tmp (.inr rfl) Tryz.results58 rfl (.of_eq (by congr 1; rw [Bool.eq_iff_iff]; simp_all [bareF, numsK, textsK, clocksK, valuesK, Val.nv, Val.mv, Val.sv, Val.cv, Val.vv])) (.bool _) ⟨rfl, rfl⟩
  ·
   refine qS rfl <| qS rfl <| qS rfl <| qS rfl <| qS rfl <| qS rfl <| qS rfl <| qP rfl rfl rfl rfl <| qM rfl rfl rfl <| qS rfl <| qS rfl <| qS rfl <| qS rfl <| qS rfl <| qS rfl <| qS rfl <| qP rfl rfl rfl rfl <| qM rfl rfl rfl <| qS rfl <| qS rfl <| qS rfl <| qS rfl <| qS rfl <| qS rfl <| qS rfl <| qP rfl rfl rfl rfl ?_
   refine qA rfl rfl rfl <| qN <| mwp_ret ?_
   exact ret_tmp (.inr rfl) Tryz.results58 rfl (.of_eq (by congr 1; rw [Bool.eq_iff_iff]; simp_all [bareF, numsK, textsK, clocksK, valuesK, Val.nv, Val.mv, Val.sv, Val.cv, Val.vv])) (.bool _) ⟨rfl, rfl⟩
 ·
  refine mcalls_body Tryz.func58 rfl Tryz.ntmps58 (Nat.le_of_ble_eq_true rfl) ?_
  refine mwp_seq <| qR rfl <| qB rfl rfl rfl rfl rfl <| qA rfl rfl rfl <| qN <| mwp_seq <| qR rfl <| qM rfl rfl rfl <| qC rfl rfl rfl rfl rfl <| qM rfl rfl rfl <| qM rfl rfl rfl <| qC rfl rfl rfl rfl rfl <| qP rfl rfl rfl rfl <| qM rfl rfl rfl <| qS rfl <| qS rfl <| qP rfl rfl rfl rfl <| qA rfl rfl rfl <| qN ?_
  refine mwp_seq <| qR rfl <| qM rfl rfl rfl <| qC rfl rfl rfl rfl rfl <| qM rfl rfl rfl <| qM rfl rfl rfl <| qC rfl rfl rfl rfl rfl <| qP rfl rfl rfl rfl <| qM rfl rfl rfl <| qM rfl rfl rfl <| qC rfl rfl rfl rfl rfl <| qP rfl rfl rfl rfl <| qA rfl rfl rfl <| qN <| mwp_seq <| qR rfl <| qM rfl rfl rfl <| qC rfl rfl rfl rfl rfl ?_
  refine qM rfl rfl rfl <| qM rfl rfl rfl <| qC rfl rfl rfl rfl rfl <| qP rfl rfl rfl rfl <| qA rfl rfl rfl <| qN <| mwp_seq <| qR rfl <| qM rfl rfl rfl <| qC rfl rfl rfl rfl rfl <| qM rfl rfl rfl <| qM rfl rfl rfl <| qC rfl rfl rfl rfl rfl <| qP rfl rfl rfl rfl <| qM rfl rfl rfl <| qM rfl rfl rfl <| qC rfl rfl rfl rfl rfl ?_
  refine qP rfl rfl rfl rfl <| qA rfl rfl rfl <| qN <| mwp_seq <| qR rfl <| qM rfl rfl rfl <| qM rfl rfl rfl <| qS rfl <| qS rfl <| qS rfl <| qP rfl rfl rfl rfl <| qM rfl rfl rfl <| qM rfl rfl rfl <| qC rfl rfl rfl rfl rfl <| qM rfl rfl rfl <| qF rfl rfl rfl fo30_1 <| qL rfl rfl rfl rfl ta25 rfl <| qC rfl rfl rfl rfl rfl ?_
  refine qP rfl rfl rfl rfl <| qP rfl rfl rfl rfl <| qM rfl rfl rfl ?_
  refine wOps_case (fun h60 => ?_) (fun h60 => ?_)
  ·
   refine qM rfl rfl rfl <| qM rfl rfl rfl <| qF rfl rfl rfl fo30_2 <| qL rfl rfl rfl rfl ta26 rfl <| qE rfl rfl Tryz.underlying26 rfl <| qC rfl rfl rfl rfl rfl <| qP rfl rfl rfl rfl <| qP rfl rfl rfl rfl <| qM rfl rfl rfl ?_
   refine wOps_case (fun h69 => ?_) (fun h69 => ?_)
   ·
    refine qM rfl rfl rfl <| qM rfl rfl rfl <| qF rfl rfl rfl fo30_3 <| qL rfl rfl rfl rfl ta27 rfl <| qE rfl rfl Tryz.underlying27 rfl <| qC rfl rfl rfl rfl rfl <| qP rfl rfl rfl rfl <| qP rfl rfl rfl rfl <| qM rfl rfl rfl ?_
    refine wOps_case (fun h78 => ?_) (fun h78 => ?_)
    ·
     refine qM rfl rfl rfl <| qM rfl rfl rfl <| qF rfl rfl rfl fo30_4 <| qL rfl rfl rfl rfl ta28 rfl <| qE rfl rfl Tryz.underlying28 rfl ?_
     try rw [encVs_length]
     refine qC rfl rfl rfl rfl rfl <| qP rfl rfl rfl rfl <| qP rfl rfl rfl rfl <| qA rfl rfl rfl <| qN <| mwp_ret ?_
     exact ret_tmp (.inr rfl) Tryz.results58 rfl (.of_eq (by congr 1; rw [Bool.eq_iff_iff]; simp_all [bareF, numsK, textsK, clocksK, valuesK, Val.nv, Val.mv, Val.sv, Val.cv, Val.vv])) (.bool _) ⟨rfl, rfl⟩
    ·
     refine qS rfl <| qS rfl <| qS rfl <| qS rfl <| qS rfl <| qS rfl <| qS rfl <| qP rfl rfl rfl rfl <| qA rfl rfl rfl <| qN <| mwp_ret ?_
     exact ret_tmp (.inr rfl) Tryz.results58 rfl (.of_eq (by congr 1; rw [Bool.eq_iff_iff]; simp_all [bareF, numsK, textsK, clocksK, valuesK, Val.nv, Val.mv, Val.sv, Val.cv, Val.vv])) (.bool _) ⟨rfl, rfl⟩
   ·
    refine qS rfl <| qS rfl <| qS rfl <| qS rfl <| qS rfl <| qS rfl <| qS rfl <| qP rfl rfl rfl rfl <| qM rfl rfl rfl <| qS rfl <| qS rfl <| qS rfl <| qS rfl <| qS rfl <| qS rfl <| qS rfl <| qP rfl rfl rfl rfl <| qA rfl rfl rfl <| qN <| mwp_ret ?_
    exact ret_tmp (.inr rfl) Tryz.results58 rfl (.of_eq (by congr 1; rw [Bool.eq_iff_iff]; simp_all [bareF, numsK, textsK, clocksK, valuesK, Val.nv, Val.mv, Val.sv, Val.cv, Val.vv])) (.bool _) ⟨rfl, rfl⟩
  ·
   refine qS rfl <| qS rfl <| qS rfl <| qS rfl <| qS rfl <| qS rfl <| qS rfl <| qP rfl rfl rfl rfl <| qM rfl rfl rfl <| qS rfl <| qS rfl <| qS rfl <| qS rfl <| qS rfl <| qS rfl <| qS rfl <| qP rfl rfl rfl rfl <| qM rfl rfl rfl <| qS rfl <| qS rfl <| qS rfl <| qS rfl <| qS rfl <| qS rfl <| qS rfl <| qP rfl rfl rfl rfl ?_
   refine qA rfl rfl rfl <| qN <| mwp_ret ?_
   exact ret_tmp (.inr rfl) Tryz.results58 rfl (.of_eq (by congr 1; rw [Bool.eq_iff_iff]; simp_all [bareF, numsK, textsK, clocksK, valuesK, Val.nv, Val.mv, Val.sv, Val.cv, Val.vv])) (.bool _) ⟨rfl, rfl⟩
 ·
  refine mcalls_body Tryz.func58 rfl Tryz.ntmps58 (Nat.le_of_ble_eq_true rfl) ?_
  refine mwp_seq <| qR rfl <| qB rfl rfl rfl rfl rfl <| qA rfl rfl rfl <| qN <| mwp_seq <| qR rfl <| qM rfl rfl rfl <| qC rfl rfl rfl rfl rfl <| qM rfl rfl rfl <| qM rfl rfl rfl <| qC rfl rfl rfl rfl rfl <| qP rfl rfl rfl rfl <| qM rfl rfl rfl <| qM rfl rfl rfl <| qC rfl rfl rfl rfl rfl <| qP rfl rfl rfl rfl <| qA rfl rfl rfl ?_
  refine qN <| mwp_seq <| qR rfl <| qM rfl rfl rfl <| qC rfl rfl rfl rfl rfl <| qM rfl rfl rfl <| qS rfl <| qS rfl <| qP rfl rfl rfl rfl <| qM rfl rfl rfl <| qS rfl <| qS rfl <| qP rfl rfl rfl rfl <| qA rfl rfl rfl <| qN <| mwp_seq <| qR rfl <| qM rfl rfl rfl <| qC rfl rfl rfl rfl rfl <| qM rfl rfl rfl ?_
  refine qM rfl rfl rfl <| qC rfl rfl rfl rfl rfl <| qP rfl rfl rfl rfl <| qA rfl rfl rfl <| qN <| mwp_seq <| qR rfl <| qM rfl rfl rfl <| qC rfl rfl rfl rfl rfl <| qM rfl rfl rfl <| qM rfl rfl rfl <| qC rfl rfl rfl rfl rfl <| qP rfl rfl rfl rfl <| qM rfl rfl rfl <| qM rfl rfl rfl <| qC rfl rfl rfl rfl rfl <| qP rfl rfl rfl rfl ?_
  refine qA rfl rfl rfl <| qN <| mwp_seq <| qR rfl <| qM rfl rfl rfl <| qM rfl rfl rfl <| qF rfl rfl rfl fo30_0 <| qL rfl rfl rfl rfl ta25 rfl <| qC rfl rfl rfl rfl rfl <| qP rfl rfl rfl rfl <| qM rfl rfl rfl ?_
  refine wOps_case (fun h51 => ?_) (fun h51 => ?_)
  ·
   refine qM rfl rfl rfl <| qC rfl rfl rfl rfl rfl <| qM rfl rfl rfl <| qF rfl rfl rfl fo30_1 <| qL rfl rfl rfl rfl ta25 rfl <| qC rfl rfl rfl rfl rfl <| qP rfl rfl rfl rfl <| qP rfl rfl rfl rfl <| qM rfl rfl rfl ?_
   refine wOps_case (fun h60 => ?_) (fun h60 => ?_)
   ·
    refine qM rfl rfl rfl <| qM rfl rfl rfl <| qS rfl <| qS rfl <| qS rfl <| qS rfl <| qP rfl rfl rfl rfl <| qP rfl rfl rfl rfl <| qM rfl rfl rfl <| qM rfl rfl rfl <| qM rfl rfl rfl <| qF rfl rfl rfl fo30_3 <| qL rfl rfl rfl rfl ta27 rfl <| qE rfl rfl Tryz.underlying27 rfl <| qC rfl rfl rfl rfl rfl <| qP rfl rfl rfl rfl <| qP rfl rfl rfl rfl ?_
    refine qM rfl rfl rfl ?_
    refine wOps_case (fun h78 => ?_) (fun h78 => ?_)
    ·
     refine qM rfl rfl rfl <| qM rfl rfl rfl <| qF rfl rfl rfl fo30_4 <| qL rfl rfl rfl rfl ta28 rfl <| qE rfl rfl Tryz.underlying28 rfl ?_
     try rw [encVs_length]
     refine qC rfl rfl rfl rfl rfl <| qP rfl rfl rfl rfl <| qP rfl rfl rfl rfl <| qA rfl rfl rfl <| qN <| mwp_ret ?_
     exact ret_tmp (.inr rfl) Tryz.results58 rfl (.of_eq (by congr 1; rw [Bool.eq_iff_iff]; simp_all [bareF, numsK, textsK, clocksK, valuesK, Val.nv, Val.mv, Val.sv, Val.cv, Val.vv])) (.bool _) ⟨rfl, rfl⟩
    ·
     refine qS rfl <| qS rfl <| qS rfl <| qS rfl <| qS rfl <| qS rfl <| qS rfl <| qP rfl rfl rfl rfl <| qA rfl rfl rfl <| qN <| mwp_ret ?_
     exact ret_tmp (.inr rfl) Tryz.results58 rfl (.of_eq (by congr 1; rw [Bool.eq_iff_iff]; simp_all [bareF, numsK, textsK, clocksK, valuesK, Val.nv, Val.mv, Val.sv, Val.cv, Val.vv])) (.bool _) ⟨rfl, rfl⟩
   ·
    refine qS rfl <| qS rfl <| qS rfl <| qS rfl <| qS rfl <| qS rfl <| qS rfl <| qP rfl rfl rfl rfl <| qM rfl rfl rfl <| qS rfl <| qS rfl <| qS rfl <| qS rfl <| qS rfl <| qS rfl <| qS rfl <| qP rfl rfl rfl rfl <| qM rfl rfl rfl <| qS rfl <| qS rfl <| qS rfl <| qS rfl <| qS rfl <| qS rfl <| qS rfl <| qP rfl rfl rfl rfl ?_
    refine qA rfl rfl rfl <| qN <| mwp_ret ?_
    exact ret_tmp (.inr rfl) Tryz.results58 rfl (.of_eq (by congr 1; rw [Bool.eq_iff_iff]; simp_all [bareF, numsK, textsK, clocksK, valuesK, Val.nv, Val.mv, Val.sv, Val.cv, Val.vv])) (.bool _) ⟨rfl, rfl⟩
  ·
   refine qS rfl <| qS rfl <| qS rfl <| qS rfl <| qS rfl <| qS rfl <| qS rfl <| qP rfl rfl rfl rfl <| qM rfl rfl rfl <| qS rfl <| qS rfl <| qS rfl <| qS rfl <| qS rfl <| qS rfl <| qS rfl <| qP rfl rfl rfl rfl <| qM rfl rfl rfl <| qS rfl <| qS rfl <| qS rfl <| qS rfl <| qS rfl <| qS rfl <| qS rfl <| qP rfl rfl rfl rfl ?_
   refine qM rfl rfl rfl <| qS rfl <| qS rfl <| qS rfl <| qS rfl <| qS rfl <| qS rfl <| qS rfl <| qP rfl rfl rfl rfl <| qA rfl rfl rfl <| qN <| mwp_ret ?_
   exact ret_tmp (.inr rfl) Tryz.results58 rfl (.of_eq (by congr 1; rw [Bool.eq_iff_iff]; simp_all [bareF, numsK, textsK, clocksK, valuesK, Val.nv, Val.mv, Val.sv, Val.cv, Val.vv])) (.bool _) ⟨rfl, rfl⟩
 ·
  refine mcalls_body Tryz.func58 rfl Tryz.ntmps58 (Nat.le_of_ble_eq_true rfl) ?_
  refine mwp_seq <| qR rfl <| qB rfl rfl rfl rfl rfl <| qA rfl rfl rfl <| qN <| mwp_seq <| qR rfl <| qM rfl rfl rfl <| qC rfl rfl rfl rfl rfl <| qM rfl rfl rfl <| qM rfl rfl rfl <| qC rfl rfl rfl rfl rfl <| qP rfl rfl rfl rfl <| qM rfl rfl rfl <| qM rfl rfl rfl <| qC rfl rfl rfl rfl rfl <| qP rfl rfl rfl rfl <| qA rfl rfl rfl ?_
  refine qN <| mwp_seq <| qR rfl <| qM rfl rfl rfl <| qC rfl rfl rfl rfl rfl <| qM rfl rfl rfl <| qM rfl rfl rfl <| qC rfl rfl rfl rfl rfl <| qP rfl rfl rfl rfl <| qM rfl rfl rfl <| qS rfl <| qS rfl <| qP rfl rfl rfl rfl <| qA rfl rfl rfl <| qN <| mwp_seq <| qR rfl <| qM rfl rfl rfl <| qC rfl rfl rfl rfl rfl ?_
  refine qM rfl rfl rfl <| qM rfl rfl rfl <| qC rfl rfl rfl rfl rfl <| qP rfl rfl rfl rfl <| qA rfl rfl rfl <| qN <| mwp_seq <| qR rfl <| qM rfl rfl rfl <| qC rfl rfl rfl rfl rfl <| qM rfl rfl rfl <| qS rfl <| qS rfl <| qP rfl rfl rfl rfl <| qM rfl rfl rfl <| qS rfl <| qS rfl <| qP rfl rfl rfl rfl <| qA rfl rfl rfl ?_
  refine qN <| mwp_seq <| qR rfl <| qM rfl rfl rfl <| qM rfl rfl rfl <| qF rfl rfl rfl fo30_0 <| qL rfl rfl rfl rfl ta25 rfl <| qC rfl rfl rfl rfl rfl <| qP rfl rfl rfl rfl <| qM rfl rfl rfl ?_
  refine wOps_case (fun h51 => ?_) (fun h51 => ?_)
  ·
   refine qM rfl rfl rfl <| qC rfl rfl rfl rfl rfl <| qM rfl rfl rfl <| qF rfl rfl rfl fo30_1 <| qL rfl rfl rfl rfl ta25 rfl <| qC rfl rfl rfl rfl rfl <| qP rfl rfl rfl rfl <| qP rfl rfl rfl rfl <| qM rfl rfl rfl ?_
   refine wOps_case (fun h60 => ?_) (fun h60 => ?_)
   ·
    refine qM rfl rfl rfl <| qM rfl rfl rfl <| qS rfl <| qS rfl <| qS rfl <| qS rfl <| qP rfl rfl rfl rfl <| qP rfl rfl rfl rfl <| qM rfl rfl rfl <| qM rfl rfl rfl <| qM rfl rfl rfl <| qF rfl rfl rfl fo30_3 <| qL rfl rfl rfl rfl ta27 rfl <| qE rfl rfl Tryz.underlying27 rfl <| qC rfl rfl rfl rfl rfl <| qP rfl rfl rfl rfl <| qP rfl rfl rfl rfl ?_
    refine qM rfl rfl rfl ?_
    refine wOps_case (fun h78 => ?_) (fun h78 => ?_)
    ·
     refine qM rfl rfl rfl <| qM rfl rfl rfl <| qS rfl <| qS rfl <| qS rfl <| qS rfl <| qP rfl rfl rfl rfl <| qP rfl rfl rfl rfl <| qA rfl rfl rfl <| qN <| mwp_ret ?_
     exact ret_tmp (.inr rfl) Tryz.results58 rfl (.of_eq (by congr 1; rw [Bool.eq_iff_iff]; simp_all [bareF, numsK, textsK, clocksK, valuesK, Val.nv, Val.mv, Val.sv, Val.cv, Val.vv])) (.bool _) ⟨rfl, rfl⟩
    ·
     refine qS rfl <| qS rfl <| qS rfl <| qS rfl <| qS rfl <| qS rfl <| qS rfl <| qP rfl rfl rfl rfl <| qA rfl rfl rfl <| qN <| mwp_ret ?_
     exact ret_tmp (.inr rfl) Tryz.results58 rfl (.of_eq (by congr 1; rw [Bool.eq_iff_iff]; simp_all [bareF, numsK, textsK, clocksK, valuesK, Val.nv, Val.mv, Val.sv, Val.cv, Val.vv])) (.bool _) ⟨rfl, rfl⟩
   ·
    refine qS rfl <| qS rfl <| qS rfl <| qS rfl <| qS rfl <| qS rfl <| qS rfl <| qP rfl rfl rfl rfl <| qM rfl rfl rfl <| qS rfl <| qS rfl <| qS rfl <| qS rfl <| qS rfl <| qS rfl <| qS rfl <| qP rfl rfl rfl rfl <| qM rfl rfl rfl <| qS rfl <| qS rfl <| qS rfl <| qS rfl <| qS rfl <| qS rfl <| qS rfl <| qP rfl rfl rfl rfl ?_
    refine qA rfl rfl rfl <| qN <| mwp_ret ?_
    exact ret_tmp (.inr rfl) Tryz.results58 rfl (.of_eq (by congr 1; rw [Bool.eq_iff_iff]; simp_all [bareF, numsK, textsK, clocksK, valuesK, Val.nv, Val.mv, Val.sv, Val.cv, Val.vv])) (.bool _) ⟨rfl, rfl⟩
  ·
   refine qS rfl <| qS rfl <| qS rfl <| qS rfl <| qS rfl <| qS rfl <| qS rfl <| qP rfl rfl rfl rfl <| qM rfl rfl rfl <| qS rfl <| qS rfl <| qS rfl <| qS rfl <| qS rfl <| qS rfl <| qS rfl <| qP rfl rfl rfl rfl <| qM rfl rfl rfl <| qS rfl <| qS rfl <| qS rfl <| qS rfl <| qS rfl <| qS rfl <| qS rfl <| qP rfl rfl rfl rfl ?_
   refine qM rfl rfl rfl <| qS rfl <| qS rfl <| qS rfl <| qS rfl <| qS rfl <| qS rfl <| qS rfl <| qP rfl rfl rfl rfl <| qA rfl rfl rfl <| qN <| mwp_ret ?_
   exact ret_tmp (.inr rfl) Tryz.results58 rfl (.of_eq (by congr 1; rw [Bool.eq_iff_iff]; simp_all [bareF, numsK, textsK, clocksK, valuesK, Val.nv, Val.mv, Val.sv, Val.cv, Val.vv])) (.bool _) ⟨rfl, rfl⟩
 ·
  refine mcalls_body Tryz.func58 rfl Tryz.ntmps58 (Nat.le_of_ble_eq_true rfl) ?_
  refine mwp_seq <| qR rfl <| qB rfl rfl rfl rfl rfl <| qA rfl rfl rfl <| qN <| mwp_seq <| qR rfl <| qM rfl rfl rfl <| qC rfl rfl rfl rfl rfl <| qM rfl rfl rfl <| qM rfl rfl rfl <| qC rfl rfl rfl rfl rfl <| qP rfl rfl rfl rfl <| qM rfl rfl rfl <| qM rfl rfl rfl <| qC rfl rfl rfl rfl rfl <| qP rfl rfl rfl rfl <| qA rfl rfl rfl ?_
  refine qN <| mwp_seq <| qR rfl <| qM rfl rfl rfl <| qC rfl rfl rfl rfl rfl <| qM rfl rfl rfl <| qM rfl rfl rfl <| qC rfl rfl rfl rfl rfl <| qP rfl rfl rfl rfl <| qM rfl rfl rfl <| qM rfl rfl rfl <| qC rfl rfl rfl rfl rfl <| qP rfl rfl rfl rfl <| qA rfl rfl rfl <| qN <| mwp_seq <| qR rfl <| qM rfl rfl rfl ?_
  refine qC rfl rfl rfl rfl rfl <| qM rfl rfl rfl <| qM rfl rfl rfl <| qC rfl rfl rfl rfl rfl <| qP rfl rfl rfl rfl <| qA rfl rfl rfl <| qN <| mwp_seq <| qR rfl <| qM rfl rfl rfl <| qC rfl rfl rfl rfl rfl <| qM rfl rfl rfl <| qM rfl rfl rfl <| qC rfl rfl rfl rfl rfl <| qP rfl rfl rfl rfl <| qM rfl rfl rfl <| qS rfl ?_
  refine qS rfl <| qP rfl rfl rfl rfl <| qA rfl rfl rfl <| qN <| mwp_seq <| qR rfl <| qM rfl rfl rfl <| qM rfl rfl rfl <| qF rfl rfl rfl fo30_0 <| qL rfl rfl rfl rfl ta25 rfl <| qC rfl rfl rfl rfl rfl <| qP rfl rfl rfl rfl <| qM rfl rfl rfl ?_
  refine wOps_case (fun h51 => ?_) (fun h51 => ?_)
  ·
   refine qM rfl rfl rfl <| qC rfl rfl rfl rfl rfl <| qM rfl rfl rfl <| qF rfl rfl rfl fo30_1 <| qL rfl rfl rfl rfl ta25 rfl <| qC rfl rfl rfl rfl rfl <| qP rfl rfl rfl rfl <| qP rfl rfl rfl rfl <| qM rfl rfl rfl ?_
   refine wOps_case (fun h60 => ?_) (fun h60 => ?_)
   ·
    refine qM rfl rfl rfl <| qM rfl rfl rfl <| qF rfl rfl rfl fo30_2 <| qL rfl rfl rfl rfl ta26 rfl <| qE rfl rfl Tryz.underlying26 rfl <| qC rfl rfl rfl rfl rfl <| qP rfl rfl rfl rfl <| qP rfl rfl rfl rfl <| qM rfl rfl rfl ?_
    refine wOps_case (fun h69 => ?_) (fun h69 => ?_)
    ·
     refine qM rfl rfl rfl <| qM rfl rfl rfl <| qF rfl rfl rfl fo30_3 <| qL rfl rfl rfl rfl ta27 rfl <| qE rfl rfl Tryz.underlying27 rfl <| qC rfl rfl rfl rfl rfl <| qP rfl rfl rfl rfl <| qP rfl rfl rfl rfl <| qM rfl rfl rfl ?_
     refine wOps_case (fun h78 => ?_) (fun h78 => ?_)
     ·
      refine qM rfl rfl rfl <| qM rfl rfl rfl <| qS rfl <| qS rfl <| qS rfl <| qS rfl <| qP rfl rfl rfl rfl <| qP rfl rfl rfl rfl <| qA rfl rfl rfl <| qN <| mwp_ret ?_
      exact ret_tmp (.inr rfl) Tryz.results58 rfl (.of_eq (by congr 1; rw [Bool.eq_iff_iff]; simp_all [bareF, numsK, textsK, clocksK, valuesK, Val.nv, Val.mv, Val.sv, Val.cv, Val.vv])) (.bool _) ⟨rfl, rfl⟩
     ·
      refine qS rfl <| qS rfl <| qS rfl <| qS rfl <| qS rfl <| qS rfl <| qS rfl <| qP rfl rfl rfl rfl <| qA rfl rfl rfl <| qN <| mwp_ret ?_
      exact ret_tmp (.inr rfl) Tryz.results58 rfl (.of_eq (by congr 1; rw [Bool.eq_iff_iff]; simp_all [bareF, numsK, textsK, clocksK, valuesK, Val.nv, Val.mv, Val.sv, Val.cv, Val.vv])) (.bool _) ⟨rfl, rfl⟩
    ·
     refine qS rfl <| qS rfl <| qS rfl <| qS rfl <| qS rfl <| qS rfl <| qS rfl <| qP rfl rfl rfl rfl <| qM rfl rfl rfl <| qS rfl <| qS rfl <| qS rfl <| qS rfl <| qS rfl <| qS rfl <| qS rfl <| qP rfl rfl rfl rfl <| qA rfl rfl rfl <| qN <| mwp_ret ?_
     exact ret_tmp (.inr rfl) Tryz.results58 rfl (.of_eq (by congr 1; rw [Bool.eq_iff_iff]; simp_all [bareF, numsK, textsK, clocksK, valuesK, Val.nv, Val.mv, Val.sv, Val.cv, Val.vv])) (.bool _) ⟨rfl, rfl⟩
   ·
    refine qS rfl <| qS rfl <| qS rfl <| qS rfl <| qS rfl <| qS rfl <| qS rfl <| qP rfl rfl rfl rfl <| qM rfl rfl rfl <| qS rfl <| qS rfl <| qS rfl <| qS rfl <| qS rfl <| qS rfl <| qS rfl <| qP rfl rfl rfl rfl <| qM rfl rfl rfl <| qS rfl <| qS rfl <| qS rfl <| qS rfl <| qS rfl <| qS rfl <| qS rfl <| qP rfl rfl rfl rfl ?_
    refine qA rfl rfl rfl <| qN <| mwp_ret ?_
    exact ret_tmp (.inr rfl) Tryz.results58 rfl (.of_eq (by congr 1; rw [Bool.eq_iff_iff]; simp_all [bareF, numsK, textsK, clocksK, valuesK, Val.nv, Val.mv, Val.sv, Val.cv, Val.vv])) (.bool _) ⟨rfl, rfl⟩
  ·
   refine qS rfl <| qS rfl <| qS rfl <| qS rfl <| qS rfl <| qS rfl <| qS rfl <| qP rfl rfl rfl rfl <| qM rfl rfl rfl <| qS rfl <| qS rfl <| qS rfl <| qS rfl <| qS rfl <| qS rfl <| qS rfl <| qP rfl rfl rfl rfl <| qM rfl rfl rfl <| qS rfl <| qS rfl <| qS rfl <| qS rfl <| qS rfl <| qS rfl <| qS rfl <| qP rfl rfl rfl rfl ?_
   refine qM rfl rfl rfl <| qS rfl <| qS rfl <| qS rfl <| qS rfl <| qS rfl <| qS rfl <| qS rfl <| qP rfl rfl rfl rfl <| qA rfl rfl rfl <| qN <| mwp_ret ?_
   exact ret_tmp (.inr rfl) Tryz.results58 rfl (.of_eq (by congr 1; rw [Bool.eq_iff_iff]; simp_all [bareF, numsK, textsK, clocksK, valuesK, Val.nv, Val.mv, Val.sv, Val.cv, Val.vv])) (.bool _) ⟨rfl, rfl⟩
 ·
  refine mcalls_body Tryz.func58 rfl Tryz.ntmps58 (Nat.le_of_ble_eq_true rfl) ?_
  refine mwp_seq <| qR rfl <| qB rfl rfl rfl rfl rfl <| qA rfl rfl rfl <| qN <| mwp_seq <| qR rfl <| qM rfl rfl rfl <| qC rfl rfl rfl rfl rfl <| qM rfl rfl rfl <| qM rfl rfl rfl <| qC rfl rfl rfl rfl rfl <| qP rfl rfl rfl rfl <| qM rfl rfl rfl <| qM rfl rfl rfl <| qC rfl rfl rfl rfl rfl <| qP rfl rfl rfl rfl <| qA rfl rfl rfl ?_
  refine qN <| mwp_seq <| qR rfl <| qM rfl rfl rfl <| qC rfl rfl rfl rfl rfl <| qM rfl rfl rfl <| qM rfl rfl rfl <| qC rfl rfl rfl rfl rfl <| qP rfl rfl rfl rfl <| qM rfl rfl rfl <| qM rfl rfl rfl <| qC rfl rfl rfl rfl rfl <| qP rfl rfl rfl rfl <| qA rfl rfl rfl <| qN <| mwp_seq <| qR rfl <| qM rfl rfl rfl ?_
  refine qC rfl rfl rfl rfl rfl <| qM rfl rfl rfl <| qM rfl rfl rfl <| qC rfl rfl rfl rfl rfl <| qP rfl rfl rfl rfl <| qA rfl rfl rfl <| qN <| mwp_seq <| qR rfl <| qM rfl rfl rfl <| qC rfl rfl rfl rfl rfl <| qM rfl rfl rfl <| qM rfl rfl rfl <| qC rfl rfl rfl rfl rfl <| qP rfl rfl rfl rfl <| qM rfl rfl rfl <| qM rfl rfl rfl ?_
  refine qC rfl rfl rfl rfl rfl <| qP rfl rfl rfl rfl <| qA rfl rfl rfl <| qN <| mwp_seq <| qR rfl <| qM rfl rfl rfl <| qM rfl rfl rfl <| qS rfl <| qS rfl <| qS rfl <| qP rfl rfl rfl rfl <| qM rfl rfl rfl <| qM rfl rfl rfl <| qC rfl rfl rfl rfl rfl <| qM rfl rfl rfl <| qS rfl <| qS rfl <| qS rfl <| qP rfl rfl rfl rfl ?_
  refine qP rfl rfl rfl rfl <| qM rfl rfl rfl <| qM rfl rfl rfl <| qM rfl rfl rfl <| qS rfl <| qS rfl <| qS rfl <| qS rfl <| qP rfl rfl rfl rfl <| qP rfl rfl rfl rfl <| qM rfl rfl rfl <| qM rfl rfl rfl <| qM rfl rfl rfl <| qF rfl rfl rfl fo30_3 <| qL rfl rfl rfl rfl ta27 rfl <| qE rfl rfl Tryz.underlying27 rfl <| qC rfl rfl rfl rfl rfl ?_
  refine qP rfl rfl rfl rfl <| qP rfl rfl rfl rfl <| qM rfl rfl rfl ?_
  refine wOps_case (fun h78 => ?_) (fun h78 => ?_)
  ·
   refine qM rfl rfl rfl <| qM rfl rfl rfl <| qF rfl rfl rfl fo30_4 <| qL rfl rfl rfl rfl ta28 rfl <| qE rfl rfl Tryz.underlying28 rfl ?_
   try rw [encVs_length]
   refine qC rfl rfl rfl rfl rfl <| qP rfl rfl rfl rfl <| qP rfl rfl rfl rfl <| qA rfl rfl rfl <| qN <| mwp_ret ?_
   exact ret_tmp (.inr rfl) Tryz.results58 rfl (.of_eq (by congr 1; rw [Bool.eq_iff_iff]; simp_all [bareF, numsK, textsK, clocksK, valuesK, Val.nv, Val.mv, Val.sv, Val.cv, Val.vv])) (.bool _) ⟨rfl, rfl⟩
  ·
   refine qS rfl <| qS rfl <| qS rfl <| qS rfl <| qS rfl <| qS rfl <| qS rfl <| qP rfl rfl rfl rfl <| qA rfl rfl rfl <| qN <| mwp_ret ?_
   exact ret_tmp (.inr rfl) Tryz.results58 rfl (.of_eq (by congr 1; rw [Bool.eq_iff_iff]; simp_all [bareF, numsK, textsK, clocksK, valuesK, Val.nv, Val.mv, Val.sv, Val.cv, Val.vv])) (.bool _) ⟨rfl, rfl⟩
 ·
  refine mcalls_body Tryz.func58 rfl Tryz.ntmps58 (Nat.le_of_ble_eq_true rfl) ?_
  refine mwp_seq <| qR rfl <| qB rfl rfl rfl rfl rfl <| qA rfl rfl rfl <| qN <| mwp_seq <| qR rfl <| qM rfl rfl rfl <| qC rfl rfl rfl rfl rfl <| qM rfl rfl rfl <| qM rfl rfl rfl <| qC rfl rfl rfl rfl rfl <| qP rfl rfl rfl rfl <| qM rfl rfl rfl <| qM rfl rfl rfl <| qC rfl rfl rfl rfl rfl <| qP rfl rfl rfl rfl <| qA rfl rfl rfl ?_
  refine qN <| mwp_seq <| qR rfl <| qM rfl rfl rfl <| qC rfl rfl rfl rfl rfl <| qM rfl rfl rfl <| qM rfl rfl rfl <| qC rfl rfl rfl rfl rfl <| qP rfl rfl rfl rfl <| qM rfl rfl rfl <| qM rfl rfl rfl <| qC rfl rfl rfl rfl rfl <| qP rfl rfl rfl rfl <| qA rfl rfl rfl <| qN <| mwp_seq <| qR rfl <| qM rfl rfl rfl ?_
  refine qC rfl rfl rfl rfl rfl <| qM rfl rfl rfl <| qS rfl <| qS rfl <| qP rfl rfl rfl rfl <| qA rfl rfl rfl <| qN <| mwp_seq <| qR rfl <| qM rfl rfl rfl <| qC rfl rfl rfl rfl rfl <| qM rfl rfl rfl <| qM rfl rfl rfl <| qC rfl rfl rfl rfl rfl <| qP rfl rfl rfl rfl <| qM rfl rfl rfl <| qM rfl rfl rfl <| qC rfl rfl rfl rfl rfl ?_
  refine qP rfl rfl rfl rfl <| qA rfl rfl rfl <| qN <| mwp_seq <| qR rfl <| qM rfl rfl rfl <| qM rfl rfl rfl <| qF rfl rfl rfl fo30_0 <| qL rfl rfl rfl rfl ta25 rfl <| qC rfl rfl rfl rfl rfl <| qP rfl rfl rfl rfl <| qM rfl rfl rfl ?_
  refine wOps_case (fun h51 => ?_) (fun h51 => ?_)
  ·
   refine qM rfl rfl rfl <| qC rfl rfl rfl rfl rfl <| qM rfl rfl rfl <| qF rfl rfl rfl fo30_1 <| qL rfl rfl rfl rfl ta25 rfl <| qC rfl rfl rfl rfl rfl <| qP rfl rfl rfl rfl <| qP rfl rfl rfl rfl <| qM rfl rfl rfl ?_
   refine wOps_case (fun h60 => ?_) (fun h60 => ?_)
   ·
    refine qM rfl rfl rfl <| qM rfl rfl rfl <| qF rfl rfl rfl fo30_2 <| qL rfl rfl rfl rfl ta26 rfl <| qE rfl rfl Tryz.underlying26 rfl <| qC rfl rfl rfl rfl rfl <| qP rfl rfl rfl rfl <| qP rfl rfl rfl rfl <| qM rfl rfl rfl ?_
    refine wOps_case (fun h69 => ?_) (fun h69 => ?_)
    ·
     refine qM rfl rfl rfl <| qM rfl rfl rfl <| qS rfl <| qS rfl <| qS rfl <| qS rfl <| qP rfl rfl rfl rfl <| qP rfl rfl rfl rfl <| qM rfl rfl rfl <| qM rfl rfl rfl <| qM rfl rfl rfl <| qF rfl rfl rfl fo30_4 <| qL rfl rfl rfl rfl ta28 rfl <| qE rfl rfl Tryz.underlying28 rfl ?_
     try rw [encVs_length]
     refine qC rfl rfl rfl rfl rfl <| qP rfl rfl rfl rfl <| qP rfl rfl rfl rfl <| qA rfl rfl rfl <| qN <| mwp_ret ?_
     exact ret_tmp (.inr rfl) Tryz.results58 rfl (.of_eq (by congr 1; rw [Bool.eq_iff_iff]; simp_all [bareF, numsK, textsK, clocksK, valuesK, Val.nv, Val.mv, Val.sv, Val.cv, Val.vv])) (.bool _) ⟨rfl, rfl⟩
    ·
     refine qS rfl <| qS rfl <| qS rfl <| qS rfl <| qS rfl <| qS rfl <| qS rfl <| qP rfl rfl rfl rfl <| qM rfl rfl rfl <| qS rfl <| qS rfl <| qS rfl <| qS rfl <| qS rfl <| qS rfl <| qS rfl <| qP rfl rfl rfl rfl <| qA rfl rfl rfl <| qN <| mwp_ret ?_
     exact ret_tmp (.inr rfl) Tryz.results58 rfl (.of_eq (by congr 1; rw [Bool.eq_iff_iff]; simp_all [bareF, numsK, textsK, clocksK, valuesK, Val.nv, Val.mv, Val.sv, Val.cv, Val.vv])) (.bool _) ⟨rfl, rfl⟩
   ·
    refine qS rfl <| qS rfl <| qS rfl <| qS rfl <| qS rfl <| qS rfl <| qS rfl <| qP rfl rfl rfl rfl <| qM rfl rfl rfl <| qS rfl <| qS rfl <| qS rfl <| qS rfl <| qS rfl <| qS rfl <| qS rfl <| qP rfl rfl rfl rfl <| qM rfl rfl rfl <| qS rfl <| qS rfl <| qS rfl <| qS rfl <| qS rfl <| qS rfl <| qS rfl <| qP rfl rfl rfl rfl ?_
    refine qA rfl rfl rfl <| qN <| mwp_ret ?_
    exact ret_tmp (.inr rfl) Tryz.results58 rfl (.of_eq (by congr 1; rw [Bool.eq_iff_iff]; simp_all [bareF, numsK, textsK, clocksK, valuesK, Val.nv, Val.mv, Val.sv, Val.cv, Val.vv])) (.bool _) ⟨rfl, rfl⟩
  ·
   refine qS rfl <| qS rfl <| qS rfl <| qS rfl <| qS rfl <| qS rfl <| qS rfl <| qP rfl rfl rfl rfl <| qM rfl rfl rfl <| qS rfl <| qS rfl <| qS rfl <| qS rfl <| qS rfl <| qS rfl <| qS rfl <| qP rfl rfl rfl rfl <| qM rfl rfl rfl <| qS rfl <| qS rfl <| qS rfl <| qS rfl <| qS rfl <| qS rfl <| qS rfl <| qP rfl rfl rfl rfl ?_
   refine qM rfl rfl rfl <| qS rfl <| qS rfl <| qS rfl <| qS rfl <| qS rfl <| qS rfl <| qS rfl <| qP rfl rfl rfl rfl <| qA rfl rfl rfl <| qN <| mwp_ret ?_
   exact ret_tmp (.inr rfl) Tryz.results58 rfl (.of_eq (by congr 1; rw [Bool.eq_iff_iff]; simp_all [bareF, numsK, textsK, clocksK, valuesK, Val.nv, Val.mv, Val.sv, Val.cv, Val.vv])) (.bool _) ⟨rfl, rfl⟩
 ·
  refine mcalls_body Tryz.func58 rfl Tryz.ntmps58 (Nat.le_of_ble_eq_true rfl) ?_
  refine mwp_seq <| qR rfl <| qB rfl rfl rfl rfl rfl <| qA rfl rfl rfl <| qN <| mwp_seq <| qR rfl <| qM rfl rfl rfl <| qC rfl rfl rfl rfl rfl <| qM rfl rfl rfl <| qM rfl rfl rfl <| qC rfl rfl rfl rfl rfl <| qP rfl rfl rfl rfl <| qM rfl rfl rfl <| qM rfl rfl rfl <| qC rfl rfl rfl rfl rfl <| qP rfl rfl rfl rfl <| qA rfl rfl rfl ?_
  refine qN <| mwp_seq <| qR rfl <| qM rfl rfl rfl <| qC rfl rfl rfl rfl rfl <| qM rfl rfl rfl <| qM rfl rfl rfl <| qC rfl rfl rfl rfl rfl <| qP rfl rfl rfl rfl <| qM rfl rfl rfl <| qM rfl rfl rfl <| qC rfl rfl rfl rfl rfl <| qP rfl rfl rfl rfl <| qA rfl rfl rfl <| qN <| mwp_seq <| qR rfl <| qM rfl rfl rfl ?_
  refine qC rfl rfl rfl rfl rfl <| qM rfl rfl rfl <| qM rfl rfl rfl <| qC rfl rfl rfl rfl rfl <| qP rfl rfl rfl rfl <| qA rfl rfl rfl <| qN <| mwp_seq <| qR rfl <| qM rfl rfl rfl <| qC rfl rfl rfl rfl rfl <| qM rfl rfl rfl <| qM rfl rfl rfl <| qC rfl rfl rfl rfl rfl <| qP rfl rfl rfl rfl <| qM rfl rfl rfl <| qM rfl rfl rfl ?_
  refine qC rfl rfl rfl rfl rfl <| qP rfl rfl rfl rfl <| qA rfl rfl rfl <| qN <| mwp_seq <| qR rfl <| qM rfl rfl rfl <| qM rfl rfl rfl <| qF rfl rfl rfl fo30_0 <| qL rfl rfl rfl rfl ta25 rfl <| qC rfl rfl rfl rfl rfl <| qP rfl rfl rfl rfl <| qM rfl rfl rfl ?_
  refine wOps_case (fun h51 => ?_) (fun h51 => ?_)
  ·
   refine qM rfl rfl rfl <| qC rfl rfl rfl rfl rfl <| qM rfl rfl rfl <| qF rfl rfl rfl fo30_1 <| qL rfl rfl rfl rfl ta25 rfl <| qC rfl rfl rfl rfl rfl <| qP rfl rfl rfl rfl <| qP rfl rfl rfl rfl <| qM rfl rfl rfl ?_
   refine wOps_case (fun h60 => ?_) (fun h60 => ?_)
   ·
    refine qM rfl rfl rfl <| qM rfl rfl rfl <| qF rfl rfl rfl fo30_2 <| qL rfl rfl rfl rfl ta26 rfl <| qE rfl rfl Tryz.underlying26 rfl <| qC rfl rfl rfl rfl rfl <| qP rfl rfl rfl rfl <| qP rfl rfl rfl rfl <| qM rfl rfl rfl ?_
    refine wOps_case (fun h69 => ?_) (fun h69 => ?_)
    ·
     refine qM rfl rfl rfl <| qM rfl rfl rfl <| qS rfl <| qS rfl <| qS rfl <| qS rfl <| qP rfl rfl rfl rfl <| qP rfl rfl rfl rfl <| qM rfl rfl rfl <| qM rfl rfl rfl <| qM rfl rfl rfl <| qS rfl <| qS rfl <| qS rfl <| qS rfl <| qP rfl rfl rfl rfl <| qP rfl rfl rfl rfl <| qA rfl rfl rfl <| qN <| mwp_ret ?_
     exact ret_tmp (.inr rfl) Tryz.results58 rfl (.of_eq (by congr 1; rw [Bool.eq_iff_iff]; simp_all [bareF, numsK, textsK, clocksK, valuesK, Val.nv, Val.mv, Val.sv, Val.cv, Val.vv])) (.bool _) ⟨rfl, rfl⟩
    ·
     refine qS rfl <| qS rfl <| qS rfl <| qS rfl <| qS rfl <| qS rfl <| qS rfl <| qP rfl rfl rfl rfl <| qM rfl rfl rfl <| qS rfl <| qS rfl <| qS rfl <| qS rfl <| qS rfl <| qS rfl <| qS rfl <| qP rfl rfl rfl rfl <| qA rfl rfl rfl <| qN <| mwp_ret ?_
     exact ret_tmp (.inr rfl) Tryz.results58 rfl (.of_eq (by congr 1; rw [Bool.eq_iff_iff]; simp_all [bareF, numsK, textsK, clocksK, valuesK, Val.nv, Val.mv, Val.sv, Val.cv, Val.vv])) (.bool _) ⟨rfl, rfl⟩
   ·
    refine qS rfl <| qS rfl <| qS rfl <| qS rfl <| qS rfl <| qS rfl <| qS rfl <| qP rfl rfl rfl rfl <| qM rfl rfl rfl <| qS rfl <| qS rfl <| qS rfl <| qS rfl <| qS rfl <| qS rfl <| qS rfl <| qP rfl rfl rfl rfl <| qM rfl rfl rfl <| qS rfl <| qS rfl <| qS rfl <| qS rfl <| qS rfl <| qS rfl <| qS rfl <| qP rfl rfl rfl rfl ?_
    refine qA rfl rfl rfl <| qN <| mwp_ret ?_
    exact ret_tmp (.inr rfl) Tryz.results58 rfl (.of_eq (by congr 1; rw [Bool.eq_iff_iff]; simp_all [bareF, numsK, textsK, clocksK, valuesK, Val.nv, Val.mv, Val.sv, Val.cv, Val.vv])) (.bool _) ⟨rfl, rfl⟩
  ·
   refine qS rfl <| qS rfl <| qS rfl <| qS rfl <| qS rfl <| qS rfl <| qS rfl <| qP rfl rfl rfl rfl <| qM rfl rfl rfl <| qS rfl <| qS rfl <| qS rfl <| qS rfl <| qS rfl <| qS rfl <| qS rfl <| qP rfl rfl rfl rfl <| qM rfl rfl rfl <| qS rfl <| qS rfl <| qS rfl <| qS rfl <| qS rfl <| qS rfl <| qS rfl <| qP rfl rfl rfl rfl ?_
   refine qM rfl rfl rfl <| qS rfl <| qS rfl <| qS rfl <| qS rfl <| qS rfl <| qS rfl <| qS rfl <| qP rfl rfl rfl rfl <| qA rfl rfl rfl <| qN <| mwp_ret ?_
   exact ret_tmp (.inr rfl) Tryz.results58 rfl (.of_eq (by congr 1; rw [Bool.eq_iff_iff]; simp_all [bareF, numsK, textsK, clocksK, valuesK, Val.nv, Val.mv, Val.sv, Val.cv, Val.vv])) (.bool _) ⟨rfl, rfl⟩
theorem is1v_spec (k k1 : Int) (i1 rest : List Sch) (f : Val → Bool) (ih : ∀ x, okV x → ∀ S : MS, MCalls Tryz.prog 38 [encS (.mk k1 i1), encV x] S fun v σ' => v = .bool (f x) ∧ σ' = S) (x : Val) (hx : okV x) (id : Nat) (S : MS) (hS : S[id]? = some (.cells [.int .i64 k, .lst none 2 (encSs (.mk k1 i1 :: rest))])) : MCalls Tryz.prog 59 [encV x, .ref id 0] S fun v σ' => v = .bool (f x) ∧ σ' = S := by
 obtain ⟨n, m, s, c, w⟩ := x
 refine mcalls_body Tryz.func59 rfl Tryz.ntmps59 (Nat.le_of_ble_eq_true rfl) ?_
 refine mwp_seq <| qR rfl <| qB rfl rfl rfl rfl rfl <| qA rfl rfl rfl <| qN <| mwp_seq ?_
 refine mwp_draw [] [_] mo (by decide) rfl rfl rfl rfl ?_
 refine dO rfl rfl rfl (op_fieldAddr_ref rfl rfl fo24_1 ⟨rfl, rfl⟩) <| dO rfl rfl rfl (op_load_far rfl rfl hS ta22 rfl ⟨rfl, rfl⟩) <| dO rfl rfl rfl (op_indexAddr rfl Tryz.underlying22 sz24 (by decide) rfl rfl rfl (show _ = some (encS (.mk k1 i1)) from rfl) ⟨rfl, rfl⟩) ?_
 refine dO rfl rfl rfl (op_load_sptr rfl rfl ta24 rfl ⟨rfl, rfl⟩) <| dO rfl rfl rfl (op_load' rfl rfl rfl ta30 rfl ⟨rfl, rfl⟩) <| dOps_op rfl rfl (.cons (op_call rfl rfl rfl co38 (ih (.mk n m s c w) hx _)) .nil) <| dO rfl rfl rfl (op_assign rfl rfl ⟨rfl, rfl⟩) <| dOps_nil <| mwp_ret ?_
 exact ret_tmp (.inr rfl) Tryz.results59 rfl (.of_eq (rfl)) (.bool _) ⟨rfl, rfl⟩
theorem is2v_spec (k k1 : Int) (i1 rest : List Sch) (f : Val → Bool) (ih : ∀ x, okV x → ∀ S : MS, MCalls Tryz.prog 38 [encS (.mk k1 i1), encV x] S fun v σ' => v = .bool (f x) ∧ σ' = S) (x : Val) (hx : okV x) (ida ids : Nat) (S : MS) (hA : S[ida]? = some (.cells [.fn (.func 59) [] [.ref ids 0]])) (hS : S[ids]? = some (.cells [.int .i64 k, .lst none 2 (encSs (.mk k1 i1 :: rest))])) : MCalls Tryz.prog 62 [encV x, .ref ida 0, .ref ids 0] S fun v σ' => v = .bool (!f x || noneF (.mk k1 i1) x) ∧ σ' = S := by
 obtain ⟨n, m, s, c, w⟩ := x
 refine mcalls_body Tryz.func62 rfl Tryz.ntmps62 (Nat.le_of_ble_eq_true rfl) ?_
 refine mwp_seq <| qR rfl <| qB rfl rfl rfl rfl rfl <| qA rfl rfl rfl <| qN <| mwp_seq ?_
 refine mwp_draw [] [_] mo (by decide) rfl rfl rfl rfl ?_
 refine dOps_op rfl rfl (.cons (op_load_far rfl rfl hA ta105 rfl ⟨rfl, rfl⟩) .nil) ?_
 refine dO rfl rfl rfl (op_load' rfl rfl rfl ta30 rfl ⟨rfl, rfl⟩) <| dOps_op rfl rfl (.cons (op_call rfl rfl rfl co59 (is1v_spec k k1 i1 rest f ih (.mk n m s c w) hx ids _ (get_app hS))) .nil) <| dO rfl rfl rfl (op_not rfl rfl ⟨rfl, rfl⟩) <| dO rfl rfl rfl (op_move rfl rfl ⟨rfl, rfl⟩) ?_
 refine dOps_case (fun h9 => ?_) (fun h9 => ?_)
 ·
  refine dS rfl rfl <| dS rfl rfl <| dS rfl rfl <| dS rfl rfl <| dS rfl rfl <| dS rfl rfl <| dO rfl rfl rfl (op_pick rfl rfl rfl ⟨rfl, rfl⟩) <| dO rfl rfl rfl (op_assign rfl rfl ⟨rfl, rfl⟩) <| dOps_nil <| mwp_ret ?_
  exact ret_tmp (.inr rfl) Tryz.results62 rfl (.of_eq (by simp_all)) (.bool _) ⟨rfl, rfl⟩
 ·
  refine dO rfl rfl rfl (op_fieldAddr_ref rfl rfl fo24_1 ⟨rfl, rfl⟩) <| dO rfl rfl rfl (op_load_far rfl rfl hS ta22 rfl ⟨rfl, rfl⟩) <| dO rfl rfl rfl (op_indexAddr rfl Tryz.underlying22 sz24 (by decide) rfl rfl rfl (show _ = some (encS (.mk k1 i1)) from rfl) ⟨rfl, rfl⟩) ?_
  refine dO rfl rfl rfl (op_load_sptr rfl rfl ta24 rfl ⟨rfl, rfl⟩) <| dO rfl rfl rfl (op_load' rfl rfl rfl ta30 rfl ⟨rfl, rfl⟩) <| dOps_op rfl rfl (.cons (op_call rfl rfl rfl co63 (None_spec (.mk k1 i1) (.mk n m s c w) _)) .nil) <| dO rfl rfl rfl (op_pick rfl rfl rfl ⟨rfl, rfl⟩) <| dO rfl rfl rfl (op_assign rfl rfl ⟨rfl, rfl⟩) <| dOps_nil <| mwp_ret ?_
  exact ret_tmp (.inr rfl) Tryz.results62 rfl (.of_eq (by simp_all)) (.bool _) ⟨rfl, rfl⟩
theorem is3v_spec (k k1 : Int) (i1 rest : List Sch) (f : Val → Bool) (ih : ∀ x, okV x → ∀ S : MS, MCalls Tryz.prog 38 [encS (.mk k1 i1), encV x] S fun v σ' => v = .bool (f x) ∧ σ' = S) (x : Val) (hx : okV x) (ida ids : Nat) (S : MS) (hA : S[ida]? = some (.cells [.fn (.func 59) [] [.ref ids 0]])) (hS : S[ids]? = some (.cells [.int .i64 k, .lst none 2 (encSs (.mk k1 i1 :: rest))])) : MCalls Tryz.prog 67 [encV x, .ref ida 0] S fun v σ' => v = .bool (!f x) ∧ σ' = S := by
 obtain ⟨n, m, s, c, w⟩ := x
 refine mcalls_body Tryz.func67 rfl Tryz.ntmps67 (Nat.le_of_ble_eq_true rfl) ?_
 refine mwp_seq <| qR rfl <| qB rfl rfl rfl rfl rfl <| qA rfl rfl rfl <| qN <| mwp_seq <| qR rfl <| qO rfl <| op_load_far rfl rfl hA ta105 rfl <| qL rfl rfl rfl rfl ta30 rfl ?_
 refine wOps_op rfl (op_call rfl rfl rfl co59 ((is1v_spec k k1 i1 rest f ih (.mk n m s c w) hx ids _ (get_app hS)).mono ?_))
 rintro _ _ ⟨rfl, rfl⟩
 refine qO rfl <| op_not rfl rfl <| qA rfl rfl rfl <| qN <| mwp_ret ?_
 exact ret_tmp (.inr rfl) Tryz.results67 rfl (.of_eq (rfl)) (.bool _) ⟨rfl, rfl⟩
theorem isV_spec (d : Nat) : ∀ (s : Sch), isF d s = true → ∀ x : Val, okV x → ∀ S : MS, MCalls Tryz.prog 38 [encS s, encV x] S fun v σ' => v = .bool (isVF s x) ∧ σ' = S := by
 induction d with
 | zero => intro s h; simp [isF] at h
 | succ d ih =>
 rintro ⟨k, ins⟩ hd ⟨n, m, s, c, w⟩ hv S
 rw [isF] at hd
 simp only [Bool.and_eq_true, List.all_eq_true, beq_iff_eq] at hd
 simp only [okV] at hv
 have hvs := okVs_iff.1 hv.2.2.2
 rcases k8_of hd.1 with rfl | rfl | rfl | rfl | rfl | rfl | rfl | rfl
 ·
  refine mcalls_body Tryz.func38 rfl Tryz.ntmps38 (Nat.le_of_ble_eq_true rfl) ?_
  refine mwp_seq <| qR rfl <| qB rfl rfl rfl rfl rfl <| qB rfl rfl rfl rfl rfl <| qA rfl rfl rfl <| qN <| mwp_seq <| mwp_seq <| qR rfl <| qF rfl rfl rfl fo24_0 <| qL rfl rfl rfl rfl ta3 rfl <| qL rfl rfl rfl rfl ta30 rfl ?_
  refine wOps_op rfl (op_call rfl rfl rfl co58 ((bare_spec 1 (by omega) n m s c w _).mono ?_))
  rintro _ _ ⟨rfl, rfl⟩
  refine qO rfl <| op_not rfl rfl <| qM rfl rfl rfl ?_
  refine wOps_case (fun h11 => ?_) (fun h11 => ?_)
  ·
   refine qS rfl <| qS rfl <| qS rfl <| qS rfl <| qP rfl rfl rfl rfl <| qM rfl rfl rfl <| qS rfl <| qS rfl <| qS rfl <| qS rfl <| qP rfl rfl rfl rfl <| qN <| mwp_cond_t rfl (rfl) <| mwp_seq <| qR rfl <| qA rfl rfl rfl <| qN <| mwp_ret ?_
   exact ret_tmp (.inr rfl) Tryz.results38 rfl (.of_eq (by rw [isVF_mk 1]; congr 1; symm; first | (rw [show bareF 1 _ = false by simpa using h11]; rfl) | (rw [w40f]; simp; done) | (rw [c40f]; simp; done))) (.bool _) ⟨rfl, rfl⟩
  ·
   refine qF rfl rfl rfl fo30_4 <| qL rfl rfl rfl rfl ta28 rfl <| qE rfl rfl Tryz.underlying28 rfl <| qC rfl rfl rfl rfl rfl <| qP rfl rfl rfl rfl <| qM rfl rfl rfl ?_
   refine wOps_case (fun h17 => ?_) (fun h17 => ?_)
   ·
    have w40f := decide_eq_false (by rw [encVs_length] at h17; simp at h17; omega : ¬ w.length ≤ 40)
    refine qS rfl <| qS rfl <| qS rfl <| qS rfl <| qP rfl rfl rfl rfl <| qN <| mwp_cond_t rfl (rfl) <| mwp_seq <| qR rfl <| qA rfl rfl rfl <| qN <| mwp_ret ?_
    exact ret_tmp (.inr rfl) Tryz.results38 rfl (.of_eq (by rw [isVF_mk 1]; congr 1; symm; first | (rw [show bareF 1 _ = false by simpa using h11]; rfl) | (rw [w40f]; simp; done) | (rw [c40f]; simp; done))) (.bool _) ⟨rfl, rfl⟩
   ·
    have w40t := decide_eq_true (by rw [encVs_length] at h17; simp at h17; omega : w.length ≤ 40)
    refine qF rfl rfl rfl fo30_3 <| qL rfl rfl rfl rfl ta27 rfl <| qE rfl rfl Tryz.underlying27 rfl <| qC rfl rfl rfl rfl rfl <| qP rfl rfl rfl rfl <| qN ?_
    refine mwp_cond_split rfl (fun h22 => ?_) (fun h22 => ?_)
    ·
     have c40f := decide_eq_false (by rw [List.length_map] at h22; simp at h22; omega : ¬ c.length ≤ 40)
     refine mwp_seq <| qR rfl <| qA rfl rfl rfl <| qN <| mwp_ret ?_
     exact ret_tmp (.inr rfl) Tryz.results38 rfl (.of_eq (by rw [isVF_mk 1]; congr 1; symm; first | (rw [show bareF 1 _ = false by simpa using h11]; rfl) | (rw [w40f]; simp; done) | (rw [c40f]; simp; done))) (.bool _) ⟨rfl, rfl⟩
    ·
     have c40t := decide_eq_true (by rw [List.length_map] at h22; simp at h22; omega : c.length ≤ 40)
     refine mwp_skip <| mwp_seq <| qR rfl <| qO rfl <| op_makeFunc rfl rfl rfl <| qO rfl <| op_alloc' rfl zm105 rfl rfl <| qO rfl <| op_store' rfl rfl rfl rfl sz105 rfl rfl (Nat.le_of_ble_eq_true rfl) rfl <| qN <| mwp_seq <| mwp_seq <| qR rfl <| qF rfl rfl rfl fo24_0 <| qL rfl rfl rfl rfl ta3 rfl <| qN <| mwp_block <| mwp_seq <| qR rfl <| qC rfl rfl rfl rfl rfl <| qA rfl rfl rfl <| qN <| mwp_cond_t rfl (rfl) <| mwp_seq <| qR rfl <| qA rfl rfl rfl ?_
     refine qN <| mwp_ret ?_
     exact ret_tmp (.inr rfl) Tryz.results38 rfl (.of_eq (by rw [isVF_mk 1]; rw [show bareF 1 _ = true by simpa using h11, w40t, c40t]; simp only [Bool.true_and, isVL, List.headD_cons, List.tail_cons]; rfl)) (.bool _) ⟨rfl, rfl⟩
 ·
  refine mcalls_body Tryz.func38 rfl Tryz.ntmps38 (Nat.le_of_ble_eq_true rfl) ?_
  refine mwp_seq <| qR rfl <| qB rfl rfl rfl rfl rfl <| qB rfl rfl rfl rfl rfl <| qA rfl rfl rfl <| qN <| mwp_seq <| mwp_seq <| qR rfl <| qF rfl rfl rfl fo24_0 <| qL rfl rfl rfl rfl ta3 rfl <| qL rfl rfl rfl rfl ta30 rfl ?_
  refine wOps_op rfl (op_call rfl rfl rfl co58 ((bare_spec 2 (by omega) n m s c w _).mono ?_))
  rintro _ _ ⟨rfl, rfl⟩
  refine qO rfl <| op_not rfl rfl <| qM rfl rfl rfl ?_
  refine wOps_case (fun h11 => ?_) (fun h11 => ?_)
  ·
   refine qS rfl <| qS rfl <| qS rfl <| qS rfl <| qP rfl rfl rfl rfl <| qM rfl rfl rfl <| qS rfl <| qS rfl <| qS rfl <| qS rfl <| qP rfl rfl rfl rfl <| qN <| mwp_cond_t rfl (rfl) <| mwp_seq <| qR rfl <| qA rfl rfl rfl <| qN <| mwp_ret ?_
   exact ret_tmp (.inr rfl) Tryz.results38 rfl (.of_eq (by rw [isVF_mk 2]; congr 1; symm; first | (rw [show bareF 2 _ = false by simpa using h11]; rfl) | (rw [w40f]; simp; done) | (rw [c40f]; simp; done))) (.bool _) ⟨rfl, rfl⟩
  ·
   refine qF rfl rfl rfl fo30_4 <| qL rfl rfl rfl rfl ta28 rfl <| qE rfl rfl Tryz.underlying28 rfl <| qC rfl rfl rfl rfl rfl <| qP rfl rfl rfl rfl <| qM rfl rfl rfl ?_
   refine wOps_case (fun h17 => ?_) (fun h17 => ?_)
   ·
    have w40f := decide_eq_false (by rw [encVs_length] at h17; simp at h17; omega : ¬ w.length ≤ 40)
    refine qS rfl <| qS rfl <| qS rfl <| qS rfl <| qP rfl rfl rfl rfl <| qN <| mwp_cond_t rfl (rfl) <| mwp_seq <| qR rfl <| qA rfl rfl rfl <| qN <| mwp_ret ?_
    exact ret_tmp (.inr rfl) Tryz.results38 rfl (.of_eq (by rw [isVF_mk 2]; congr 1; symm; first | (rw [show bareF 2 _ = false by simpa using h11]; rfl) | (rw [w40f]; simp; done) | (rw [c40f]; simp; done))) (.bool _) ⟨rfl, rfl⟩
   ·
    have w40t := decide_eq_true (by rw [encVs_length] at h17; simp at h17; omega : w.length ≤ 40)
    refine qF rfl rfl rfl fo30_3 <| qL rfl rfl rfl rfl ta27 rfl <| qE rfl rfl Tryz.underlying27 rfl <| qC rfl rfl rfl rfl rfl <| qP rfl rfl rfl rfl <| qN ?_
    refine mwp_cond_split rfl (fun h22 => ?_) (fun h22 => ?_)
    ·
     have c40f := decide_eq_false (by rw [List.length_map] at h22; simp at h22; omega : ¬ c.length ≤ 40)
     refine mwp_seq <| qR rfl <| qA rfl rfl rfl <| qN <| mwp_ret ?_
     exact ret_tmp (.inr rfl) Tryz.results38 rfl (.of_eq (by rw [isVF_mk 2]; congr 1; symm; first | (rw [show bareF 2 _ = false by simpa using h11]; rfl) | (rw [w40f]; simp; done) | (rw [c40f]; simp; done))) (.bool _) ⟨rfl, rfl⟩
    ·
     have c40t := decide_eq_true (by rw [List.length_map] at h22; simp at h22; omega : c.length ≤ 40)
     refine mwp_skip <| mwp_seq <| qR rfl <| qO rfl <| op_makeFunc rfl rfl rfl <| qO rfl <| op_alloc' rfl zm105 rfl rfl <| qO rfl <| op_store' rfl rfl rfl rfl sz105 rfl rfl (Nat.le_of_ble_eq_true rfl) rfl <| qN <| mwp_seq <| mwp_seq <| qR rfl <| qF rfl rfl rfl fo24_0 <| qL rfl rfl rfl rfl ta3 rfl <| qN <| mwp_block <| mwp_seq <| qR rfl <| qC rfl rfl rfl rfl rfl <| qA rfl rfl rfl <| qN <| mwp_cond_f rfl (rfl) <| mwp_seq <| qR rfl <| qC rfl rfl rfl rfl rfl ?_
     refine qA rfl rfl rfl <| qN <| mwp_cond_t rfl (rfl) <| mwp_seq <| qR rfl <| qF rfl rfl rfl fo30_0 <| qL rfl rfl rfl rfl ta25 rfl <| qC rfl rfl rfl rfl rfl <| qA rfl rfl rfl <| qN <| mwp_ret ?_
     exact ret_tmp (.inr rfl) Tryz.results38 rfl (.of_eq (by rw [isVF_mk 2]; rw [show bareF 2 _ = true by simpa using h11, w40t, c40t]; simp only [Bool.true_and, isVL, List.headD_cons, List.tail_cons]; rfl)) (.bool _) ⟨rfl, rfl⟩
 ·
  refine mcalls_body Tryz.func38 rfl Tryz.ntmps38 (Nat.le_of_ble_eq_true rfl) ?_
  refine mwp_seq <| qR rfl <| qB rfl rfl rfl rfl rfl <| qB rfl rfl rfl rfl rfl <| qA rfl rfl rfl <| qN <| mwp_seq <| mwp_seq <| qR rfl <| qF rfl rfl rfl fo24_0 <| qL rfl rfl rfl rfl ta3 rfl <| qL rfl rfl rfl rfl ta30 rfl ?_
  refine wOps_op rfl (op_call rfl rfl rfl co58 ((bare_spec 3 (by omega) n m s c w _).mono ?_))
  rintro _ _ ⟨rfl, rfl⟩
  refine qO rfl <| op_not rfl rfl <| qM rfl rfl rfl ?_
  refine wOps_case (fun h11 => ?_) (fun h11 => ?_)
  ·
   refine qS rfl <| qS rfl <| qS rfl <| qS rfl <| qP rfl rfl rfl rfl <| qM rfl rfl rfl <| qS rfl <| qS rfl <| qS rfl <| qS rfl <| qP rfl rfl rfl rfl <| qN <| mwp_cond_t rfl (rfl) <| mwp_seq <| qR rfl <| qA rfl rfl rfl <| qN <| mwp_ret ?_
   exact ret_tmp (.inr rfl) Tryz.results38 rfl (.of_eq (by rw [isVF_mk 3]; congr 1; symm; first | (rw [show bareF 3 _ = false by simpa using h11]; rfl) | (rw [w40f]; simp; done) | (rw [c40f]; simp; done))) (.bool _) ⟨rfl, rfl⟩
  ·
   refine qF rfl rfl rfl fo30_4 <| qL rfl rfl rfl rfl ta28 rfl <| qE rfl rfl Tryz.underlying28 rfl <| qC rfl rfl rfl rfl rfl <| qP rfl rfl rfl rfl <| qM rfl rfl rfl ?_
   refine wOps_case (fun h17 => ?_) (fun h17 => ?_)
   ·
    have w40f := decide_eq_false (by rw [encVs_length] at h17; simp at h17; omega : ¬ w.length ≤ 40)
    refine qS rfl <| qS rfl <| qS rfl <| qS rfl <| qP rfl rfl rfl rfl <| qN <| mwp_cond_t rfl (rfl) <| mwp_seq <| qR rfl <| qA rfl rfl rfl <| qN <| mwp_ret ?_
    exact ret_tmp (.inr rfl) Tryz.results38 rfl (.of_eq (by rw [isVF_mk 3]; congr 1; symm; first | (rw [show bareF 3 _ = false by simpa using h11]; rfl) | (rw [w40f]; simp; done) | (rw [c40f]; simp; done))) (.bool _) ⟨rfl, rfl⟩
   ·
    have w40t := decide_eq_true (by rw [encVs_length] at h17; simp at h17; omega : w.length ≤ 40)
    refine qF rfl rfl rfl fo30_3 <| qL rfl rfl rfl rfl ta27 rfl <| qE rfl rfl Tryz.underlying27 rfl <| qC rfl rfl rfl rfl rfl <| qP rfl rfl rfl rfl <| qN ?_
    refine mwp_cond_split rfl (fun h22 => ?_) (fun h22 => ?_)
    ·
     have c40f := decide_eq_false (by rw [List.length_map] at h22; simp at h22; omega : ¬ c.length ≤ 40)
     refine mwp_seq <| qR rfl <| qA rfl rfl rfl <| qN <| mwp_ret ?_
     exact ret_tmp (.inr rfl) Tryz.results38 rfl (.of_eq (by rw [isVF_mk 3]; congr 1; symm; first | (rw [show bareF 3 _ = false by simpa using h11]; rfl) | (rw [w40f]; simp; done) | (rw [c40f]; simp; done))) (.bool _) ⟨rfl, rfl⟩
    ·
     have c40t := decide_eq_true (by rw [List.length_map] at h22; simp at h22; omega : c.length ≤ 40)
     refine mwp_skip <| mwp_seq <| qR rfl <| qO rfl <| op_makeFunc rfl rfl rfl <| qO rfl <| op_alloc' rfl zm105 rfl rfl <| qO rfl <| op_store' rfl rfl rfl rfl sz105 rfl rfl (Nat.le_of_ble_eq_true rfl) rfl <| qN <| mwp_seq <| mwp_seq <| qR rfl <| qF rfl rfl rfl fo24_0 <| qL rfl rfl rfl rfl ta3 rfl <| qN <| mwp_block <| mwp_seq <| qR rfl <| qC rfl rfl rfl rfl rfl <| qA rfl rfl rfl <| qN <| mwp_cond_f rfl (rfl) <| mwp_seq <| qR rfl <| qC rfl rfl rfl rfl rfl ?_
     refine qA rfl rfl rfl <| qN <| mwp_cond_f rfl (rfl) <| mwp_seq <| qR rfl <| qC rfl rfl rfl rfl rfl <| qA rfl rfl rfl <| qN <| mwp_cond_t rfl (rfl) <| mwp_seq <| qR rfl <| qF rfl rfl rfl fo30_2 <| qL rfl rfl rfl rfl ta26 rfl ?_
     refine wOps_op rfl (op_call rfl rfl rfl co60 ((isRow_spec s _).mono ?_))
     rintro _ _ ⟨rfl, rfl⟩
     refine qA rfl rfl rfl <| qN <| mwp_ret ?_
     exact ret_tmp (.inr rfl) Tryz.results38 rfl (.of_eq (by rw [isVF_mk 3]; rw [show bareF 3 _ = true by simpa using h11, w40t, c40t]; simp only [Bool.true_and, isVL, List.headD_cons, List.tail_cons]; rfl)) (.bool _) ⟨rfl, rfl⟩
 ·
  obtain ⟨⟨k1, i1⟩, rfl⟩ := one_ins hd.1 (by decide)
  have ih1 := ih (.mk k1 i1) (hd.2 _ (by simp))
  refine mcalls_body Tryz.func38 rfl Tryz.ntmps38 (Nat.le_of_ble_eq_true rfl) ?_
  refine mwp_seq <| qR rfl <| qB rfl rfl rfl rfl rfl <| qB rfl rfl rfl rfl rfl <| qA rfl rfl rfl <| qN <| mwp_seq <| mwp_seq <| qR rfl <| qF rfl rfl rfl fo24_0 <| qL rfl rfl rfl rfl ta3 rfl <| qL rfl rfl rfl rfl ta30 rfl ?_
  refine wOps_op rfl (op_call rfl rfl rfl co58 ((bare_spec 4 (by omega) n m s c w _).mono ?_))
  rintro _ _ ⟨rfl, rfl⟩
  refine qO rfl <| op_not rfl rfl <| qM rfl rfl rfl ?_
  refine wOps_case (fun h11 => ?_) (fun h11 => ?_)
  ·
   refine qS rfl <| qS rfl <| qS rfl <| qS rfl <| qP rfl rfl rfl rfl <| qM rfl rfl rfl <| qS rfl <| qS rfl <| qS rfl <| qS rfl <| qP rfl rfl rfl rfl <| qN <| mwp_cond_t rfl (rfl) <| mwp_seq <| qR rfl <| qA rfl rfl rfl <| qN <| mwp_ret ?_
   exact ret_tmp (.inr rfl) Tryz.results38 rfl (.of_eq (by rw [isVF_mk 4]; congr 1; symm; first | (rw [show bareF 4 _ = false by simpa using h11]; rfl) | (rw [w40f]; simp; done) | (rw [c40f]; simp; done))) (.bool _) ⟨rfl, rfl⟩
  ·
   refine qF rfl rfl rfl fo30_4 <| qL rfl rfl rfl rfl ta28 rfl <| qE rfl rfl Tryz.underlying28 rfl <| qC rfl rfl rfl rfl rfl <| qP rfl rfl rfl rfl <| qM rfl rfl rfl ?_
   refine wOps_case (fun h17 => ?_) (fun h17 => ?_)
   ·
    have w40f := decide_eq_false (by rw [encVs_length] at h17; simp at h17; omega : ¬ w.length ≤ 40)
    refine qS rfl <| qS rfl <| qS rfl <| qS rfl <| qP rfl rfl rfl rfl <| qN <| mwp_cond_t rfl (rfl) <| mwp_seq <| qR rfl <| qA rfl rfl rfl <| qN <| mwp_ret ?_
    exact ret_tmp (.inr rfl) Tryz.results38 rfl (.of_eq (by rw [isVF_mk 4]; congr 1; symm; first | (rw [show bareF 4 _ = false by simpa using h11]; rfl) | (rw [w40f]; simp; done) | (rw [c40f]; simp; done))) (.bool _) ⟨rfl, rfl⟩
   ·
    have w40t := decide_eq_true (by rw [encVs_length] at h17; simp at h17; omega : w.length ≤ 40)
    refine qF rfl rfl rfl fo30_3 <| qL rfl rfl rfl rfl ta27 rfl <| qE rfl rfl Tryz.underlying27 rfl <| qC rfl rfl rfl rfl rfl <| qP rfl rfl rfl rfl <| qN ?_
    refine mwp_cond_split rfl (fun h22 => ?_) (fun h22 => ?_)
    ·
     have c40f := decide_eq_false (by rw [List.length_map] at h22; simp at h22; omega : ¬ c.length ≤ 40)
     refine mwp_seq <| qR rfl <| qA rfl rfl rfl <| qN <| mwp_ret ?_
     exact ret_tmp (.inr rfl) Tryz.results38 rfl (.of_eq (by rw [isVF_mk 4]; congr 1; symm; first | (rw [show bareF 4 _ = false by simpa using h11]; rfl) | (rw [w40f]; simp; done) | (rw [c40f]; simp; done))) (.bool _) ⟨rfl, rfl⟩
    ·
     have c40t := decide_eq_true (by rw [List.length_map] at h22; simp at h22; omega : c.length ≤ 40)
     refine mwp_skip <| mwp_seq <| qR rfl <| qO rfl <| op_makeFunc rfl rfl rfl <| qO rfl <| op_alloc' rfl zm105 rfl rfl <| qO rfl <| op_store' rfl rfl rfl rfl sz105 rfl rfl (Nat.le_of_ble_eq_true rfl) rfl <| qN <| mwp_seq <| mwp_seq <| qR rfl <| qF rfl rfl rfl fo24_0 <| qL rfl rfl rfl rfl ta3 rfl <| qN <| mwp_block <| mwp_seq <| qR rfl <| qC rfl rfl rfl rfl rfl <| qA rfl rfl rfl <| qN <| mwp_cond_f rfl (rfl) <| mwp_seq <| qR rfl <| qC rfl rfl rfl rfl rfl ?_
     refine qA rfl rfl rfl <| qN <| mwp_cond_f rfl (rfl) <| mwp_seq <| qR rfl <| qC rfl rfl rfl rfl rfl <| qA rfl rfl rfl <| qN <| mwp_cond_f rfl (rfl) <| mwp_seq <| qR rfl <| qC rfl rfl rfl rfl rfl <| qA rfl rfl rfl <| qN <| mwp_cond_t rfl (rfl) <| mwp_seq <| qR rfl <| qF rfl rfl rfl fo30_2 <| qL rfl rfl rfl rfl ta26 rfl ?_
     refine wOps_op rfl (op_call rfl rfl rfl co60 ((isRow_spec s _).mono ?_))
     rintro _ _ ⟨rfl, rfl⟩
     refine qM rfl rfl rfl ?_
     refine wOps_case (fun h43 => ?_) (fun h43 => ?_)
     ·
      refine qF rfl rfl rfl fo30_2 <| qL rfl rfl rfl rfl ta26 rfl <| qE rfl rfl Tryz.underlying26 rfl <| qF rfl rfl rfl fo30_4 <| qL rfl rfl rfl rfl ta28 rfl <| qE rfl rfl Tryz.underlying28 rfl <| qC rfl rfl rfl rfl rfl <| qP rfl rfl rfl rfl <| qM rfl rfl rfl ?_
      refine wOps_case (fun h52 => ?_) (fun h52 => ?_)
      ·
       have hsl : s.length = w.length := by rw [List.length_map, encVs_length] at h52; simp at h52; omega
       refine qF rfl rfl rfl fo30_4 <| qL rfl rfl rfl rfl ta28 rfl <| qO rfl <| op_makeFunc rfl rfl rfl ?_
       refine wOps_op rfl (op_call rfl rfl rfl co61 ((vContains_spec _ w (fun x => !isVF (.mk k1 i1) x || noneF (.mk k1 i1) x) _ [] [.ref (S.length + 2) 0, .ref (S.length + 0) 0] co62 (fun x hx X => is2v_spec 4 k1 i1 [] (isVF (.mk k1 i1)) ih1 x (hvs x hx) _ _ _ (get_mid_ (k := 2) rfl) (get_mid_ (k := 0) rfl))).mono ?_))
       rintro _ _ ⟨rfl, rfl⟩
       refine qO rfl <| op_not rfl rfl <| qP rfl rfl rfl rfl <| qA rfl rfl rfl <| qN <| mwp_ret ?_
       exact ret_tmp (.inr rfl) Tryz.results38 rfl (.of_eq (by rw [isVF_mk 4]; rw [show bareF 4 _ = true by simpa using h11, w40t, c40t]; simp only [Bool.true_and, isVL, List.headD_cons, List.tail_cons]; congr 1; rw [Bool.eq_iff_iff]; simp_all [encVs_length, any_all])) (.bool _) ⟨rfl, rfl⟩
      ·
       have hsl : ¬ s.length = w.length := by rw [List.length_map, encVs_length] at h52; simp at h52; omega
       refine qS rfl <| qS rfl <| qS rfl <| qS rfl <| qS rfl <| qP rfl rfl rfl rfl <| qA rfl rfl rfl <| qN <| mwp_ret ?_
       exact ret_tmp (.inr rfl) Tryz.results38 rfl (.of_eq (by rw [isVF_mk 4]; rw [show bareF 4 _ = true by simpa using h11, w40t, c40t]; simp only [Bool.true_and, isVL, List.headD_cons, List.tail_cons]; congr 1; rw [Bool.eq_iff_iff]; simp_all [encVs_length, any_all])) (.bool _) ⟨rfl, rfl⟩
     ·
      refine qS rfl <| qS rfl <| qS rfl <| qS rfl <| qS rfl <| qS rfl <| qS rfl <| qP rfl rfl rfl rfl <| qM rfl rfl rfl <| qS rfl <| qS rfl <| qS rfl <| qS rfl <| qS rfl <| qP rfl rfl rfl rfl <| qA rfl rfl rfl <| qN <| mwp_ret ?_
      exact ret_tmp (.inr rfl) Tryz.results38 rfl (.of_eq (by rw [isVF_mk 4]; rw [show bareF 4 _ = true by simpa using h11, w40t, c40t]; simp only [Bool.true_and, isVL, List.headD_cons, List.tail_cons]; congr 1; rw [Bool.eq_iff_iff]; simp_all [encVs_length, any_all])) (.bool _) ⟨rfl, rfl⟩
 ·
  obtain ⟨⟨k1, i1⟩, ⟨k2, i2⟩, rfl⟩ := two_of hd.1
  have ih1 := ih (.mk k1 i1) (hd.2 _ (by simp))
  have ih2 := ih (.mk k2 i2) (hd.2 _ (by simp))
  refine mcalls_body Tryz.func38 rfl Tryz.ntmps38 (Nat.le_of_ble_eq_true rfl) ?_
  refine mwp_seq <| qR rfl <| qB rfl rfl rfl rfl rfl <| qB rfl rfl rfl rfl rfl <| qA rfl rfl rfl <| qN <| mwp_seq <| mwp_seq <| qR rfl <| qF rfl rfl rfl fo24_0 <| qL rfl rfl rfl rfl ta3 rfl <| qL rfl rfl rfl rfl ta30 rfl ?_
  refine wOps_op rfl (op_call rfl rfl rfl co58 ((bare_spec 5 (by omega) n m s c w _).mono ?_))
  rintro _ _ ⟨rfl, rfl⟩
  refine qO rfl <| op_not rfl rfl <| qM rfl rfl rfl ?_
  refine wOps_case (fun h11 => ?_) (fun h11 => ?_)
  ·
   refine qS rfl <| qS rfl <| qS rfl <| qS rfl <| qP rfl rfl rfl rfl <| qM rfl rfl rfl <| qS rfl <| qS rfl <| qS rfl <| qS rfl <| qP rfl rfl rfl rfl <| qN <| mwp_cond_t rfl (rfl) <| mwp_seq <| qR rfl <| qA rfl rfl rfl <| qN <| mwp_ret ?_
   exact ret_tmp (.inr rfl) Tryz.results38 rfl (.of_eq (by rw [isVF_mk 5]; congr 1; symm; first | (rw [show bareF 5 _ = false by simpa using h11]; rfl) | (rw [w40f]; simp; done) | (rw [c40f]; simp; done))) (.bool _) ⟨rfl, rfl⟩
  ·
   refine qF rfl rfl rfl fo30_4 <| qL rfl rfl rfl rfl ta28 rfl <| qE rfl rfl Tryz.underlying28 rfl <| qC rfl rfl rfl rfl rfl <| qP rfl rfl rfl rfl <| qM rfl rfl rfl ?_
   refine wOps_case (fun h17 => ?_) (fun h17 => ?_)
   ·
    have w40f := decide_eq_false (by rw [encVs_length] at h17; simp at h17; omega : ¬ w.length ≤ 40)
    refine qS rfl <| qS rfl <| qS rfl <| qS rfl <| qP rfl rfl rfl rfl <| qN <| mwp_cond_t rfl (rfl) <| mwp_seq <| qR rfl <| qA rfl rfl rfl <| qN <| mwp_ret ?_
    exact ret_tmp (.inr rfl) Tryz.results38 rfl (.of_eq (by rw [isVF_mk 5]; congr 1; symm; first | (rw [show bareF 5 _ = false by simpa using h11]; rfl) | (rw [w40f]; simp; done) | (rw [c40f]; simp; done))) (.bool _) ⟨rfl, rfl⟩
   ·
    have w40t := decide_eq_true (by rw [encVs_length] at h17; simp at h17; omega : w.length ≤ 40)
    refine qF rfl rfl rfl fo30_3 <| qL rfl rfl rfl rfl ta27 rfl <| qE rfl rfl Tryz.underlying27 rfl <| qC rfl rfl rfl rfl rfl <| qP rfl rfl rfl rfl <| qN ?_
    refine mwp_cond_split rfl (fun h22 => ?_) (fun h22 => ?_)
    ·
     have c40f := decide_eq_false (by rw [List.length_map] at h22; simp at h22; omega : ¬ c.length ≤ 40)
     refine mwp_seq <| qR rfl <| qA rfl rfl rfl <| qN <| mwp_ret ?_
     exact ret_tmp (.inr rfl) Tryz.results38 rfl (.of_eq (by rw [isVF_mk 5]; congr 1; symm; first | (rw [show bareF 5 _ = false by simpa using h11]; rfl) | (rw [w40f]; simp; done) | (rw [c40f]; simp; done))) (.bool _) ⟨rfl, rfl⟩
    ·
     have c40t := decide_eq_true (by rw [List.length_map] at h22; simp at h22; omega : c.length ≤ 40)
     refine mwp_skip <| mwp_seq <| qR rfl <| qO rfl <| op_makeFunc rfl rfl rfl <| qO rfl <| op_alloc' rfl zm105 rfl rfl <| qO rfl <| op_store' rfl rfl rfl rfl sz105 rfl rfl (Nat.le_of_ble_eq_true rfl) rfl <| qN <| mwp_seq <| mwp_seq <| qR rfl <| qF rfl rfl rfl fo24_0 <| qL rfl rfl rfl rfl ta3 rfl <| qN <| mwp_block <| mwp_seq <| qR rfl <| qC rfl rfl rfl rfl rfl <| qA rfl rfl rfl <| qN <| mwp_cond_f rfl (rfl) <| mwp_seq <| qR rfl <| qC rfl rfl rfl rfl rfl ?_
     refine qA rfl rfl rfl <| qN <| mwp_cond_f rfl (rfl) <| mwp_seq <| qR rfl <| qC rfl rfl rfl rfl rfl <| qA rfl rfl rfl <| qN <| mwp_cond_f rfl (rfl) <| mwp_seq <| qR rfl <| qC rfl rfl rfl rfl rfl <| qA rfl rfl rfl <| qN <| mwp_cond_f rfl (rfl) <| mwp_seq <| qR rfl <| qC rfl rfl rfl rfl rfl <| qA rfl rfl rfl <| qN <| mwp_cond_t rfl (rfl) <| mwp_seq ?_
     refine mwp_draw [] [_] mo (by decide) rfl rfl rfl rfl ?_
     refine dO rfl rfl rfl (op_fieldAddr_ref rfl rfl fo30_4 ⟨rfl, rfl⟩) <| dO rfl rfl rfl (op_load' rfl rfl rfl ta28 rfl ⟨rfl, rfl⟩) <| dO rfl rfl rfl (op_len_lst rfl Tryz.underlying28 rfl ⟨rfl, rfl⟩) <| dO rfl rfl rfl (op_cmp rfl rfl rfl rfl ⟨rfl, rfl⟩) <| dO rfl rfl rfl (op_move rfl rfl ⟨rfl, rfl⟩) ?_
     refine dOps_case (fun h65 => ?_) (fun h65 => ?_)
     ·
      obtain ⟨⟨n1, m1, s1, c1, w1⟩, ⟨n2, m2, s2, c2, w2⟩, rfl⟩ := two_of' (by rw [encVs_length] at h65; simp at h65; omega : w.length = 2)
      refine dO rfl rfl rfl (op_fieldAddr_ref rfl rfl fo24_1 ⟨rfl, rfl⟩) <| dO rfl rfl rfl (op_load' rfl rfl rfl ta22 rfl ⟨rfl, rfl⟩) <| dO rfl rfl rfl (op_indexAddr rfl Tryz.underlying22 sz24 (by decide) rfl rfl rfl (show _ = some (encS (.mk k1 i1)) from rfl) ⟨rfl, rfl⟩) ?_
      refine dO rfl rfl rfl (op_load_sptr rfl rfl ta24 rfl ⟨rfl, rfl⟩) <| dO rfl rfl rfl (op_fieldAddr_ref rfl rfl fo30_4 ⟨rfl, rfl⟩) <| dO rfl rfl rfl (op_load' rfl rfl rfl ta28 rfl ⟨rfl, rfl⟩) <| dO rfl rfl rfl (op_indexAddr rfl Tryz.underlying28 sz30 (by decide) rfl rfl rfl (show _ = some (encV (.mk n1 m1 s1 c1 w1)) from rfl) ⟨rfl, rfl⟩) ?_
      refine dO rfl rfl rfl (op_load_sptr rfl rfl ta30 rfl ⟨rfl, rfl⟩) <| dOps_op rfl rfl (.cons (op_call rfl rfl rfl co38 (ih1 (.mk n1 m1 s1 c1 w1) (hvs _ (by simp)) _)) .nil) ?_
      refine dO rfl rfl rfl (op_pick rfl rfl rfl ⟨rfl, rfl⟩) <| dO rfl rfl rfl (op_move rfl rfl ⟨rfl, rfl⟩) ?_
      refine dOps_case (fun h76 => ?_) (fun h76 => ?_)
      ·
       refine dO rfl rfl rfl (op_fieldAddr_ref rfl rfl fo24_1 ⟨rfl, rfl⟩) <| dO rfl rfl rfl (op_load' rfl rfl rfl ta22 rfl ⟨rfl, rfl⟩) <| dO rfl rfl rfl (op_indexAddr rfl Tryz.underlying22 sz24 (by decide) rfl rfl rfl (show _ = some (encS (.mk k2 i2)) from rfl) ⟨rfl, rfl⟩) ?_
       refine dO rfl rfl rfl (op_load_sptr rfl rfl ta24 rfl ⟨rfl, rfl⟩) <| dO rfl rfl rfl (op_fieldAddr_ref rfl rfl fo30_4 ⟨rfl, rfl⟩) <| dO rfl rfl rfl (op_load' rfl rfl rfl ta28 rfl ⟨rfl, rfl⟩) <| dO rfl rfl rfl (op_indexAddr rfl Tryz.underlying28 sz30 (by decide) rfl rfl rfl (show _ = some (encV (.mk n2 m2 s2 c2 w2)) from rfl) ⟨rfl, rfl⟩) ?_
       refine dO rfl rfl rfl (op_load_sptr rfl rfl ta30 rfl ⟨rfl, rfl⟩) <| dOps_op rfl rfl (.cons (op_call rfl rfl rfl co38 (ih2 (.mk n2 m2 s2 c2 w2) (hvs _ (by simp)) _)) .nil) ?_
       refine dO rfl rfl rfl (op_pick rfl rfl rfl ⟨rfl, rfl⟩) <| dO rfl rfl rfl (op_assign rfl rfl ⟨rfl, rfl⟩) <| dOps_nil <| mwp_ret ?_
       exact ret_tmp (.inr rfl) Tryz.results38 rfl (.of_eq (by rw [isVF_mk 5]; rw [show bareF 5 _ = true by simpa using h11, w40t, c40t]; simp only [Bool.true_and, isVL, List.headD_cons, List.tail_cons]; first | (congr 1; symm; rw [if_neg (by decide), if_neg (by decide), if_neg (by decide), if_neg (by decide), if_pos True.intro]; exact hm2) | (congr 1; rw [Bool.eq_iff_iff]; simp_all [encVs_length]))) (.bool _) ⟨rfl, rfl⟩
      ·
       refine dS rfl rfl <| dS rfl rfl <| dS rfl rfl <| dS rfl rfl <| dS rfl rfl <| dS rfl rfl <| dS rfl rfl <| dS rfl rfl <| dS rfl rfl <| dO rfl rfl rfl (op_pick rfl rfl rfl ⟨rfl, rfl⟩) <| dO rfl rfl rfl (op_assign rfl rfl ⟨rfl, rfl⟩) <| dOps_nil <| mwp_ret ?_
       exact ret_tmp (.inr rfl) Tryz.results38 rfl (.of_eq (by rw [isVF_mk 5]; rw [show bareF 5 _ = true by simpa using h11, w40t, c40t]; simp only [Bool.true_and, isVL, List.headD_cons, List.tail_cons]; first | (congr 1; symm; rw [if_neg (by decide), if_neg (by decide), if_neg (by decide), if_neg (by decide), if_pos True.intro]; exact hm2) | (congr 1; rw [Bool.eq_iff_iff]; simp_all [encVs_length]))) (.bool _) ⟨rfl, rfl⟩
     ·
      have hm2 := match2_no (f := isVF (.mk k1 i1)) (g := isVF (.mk k2 i2)) (by rw [encVs_length] at h65; simp at h65; omega : w.length ≠ 2)
      refine dS rfl rfl <| dS rfl rfl <| dS rfl rfl <| dS rfl rfl <| dS rfl rfl <| dS rfl rfl <| dS rfl rfl <| dS rfl rfl <| dS rfl rfl <| dO rfl rfl rfl (op_pick rfl rfl rfl ⟨rfl, rfl⟩) <| dO rfl rfl rfl (op_move rfl rfl ⟨rfl, rfl⟩) <| dS rfl rfl <| dS rfl rfl <| dS rfl rfl <| dS rfl rfl <| dS rfl rfl <| dS rfl rfl <| dS rfl rfl <| dS rfl rfl <| dS rfl rfl <| dO rfl rfl rfl (op_pick rfl rfl rfl ⟨rfl, rfl⟩) <| dO rfl rfl rfl (op_assign rfl rfl ⟨rfl, rfl⟩) <| dOps_nil <| mwp_ret ?_
      exact ret_tmp (.inr rfl) Tryz.results38 rfl (.of_eq (by rw [isVF_mk 5]; rw [show bareF 5 _ = true by simpa using h11, w40t, c40t]; simp only [Bool.true_and, isVL, List.headD_cons, List.tail_cons]; first | (congr 1; symm; rw [if_neg (by decide), if_neg (by decide), if_neg (by decide), if_neg (by decide), if_pos True.intro]; exact hm2) | (congr 1; rw [Bool.eq_iff_iff]; simp_all [encVs_length]))) (.bool _) ⟨rfl, rfl⟩
 ·
  refine mcalls_body Tryz.func38 rfl Tryz.ntmps38 (Nat.le_of_ble_eq_true rfl) ?_
  refine mwp_seq <| qR rfl <| qB rfl rfl rfl rfl rfl <| qB rfl rfl rfl rfl rfl <| qA rfl rfl rfl <| qN <| mwp_seq <| mwp_seq <| qR rfl <| qF rfl rfl rfl fo24_0 <| qL rfl rfl rfl rfl ta3 rfl <| qL rfl rfl rfl rfl ta30 rfl ?_
  refine wOps_op rfl (op_call rfl rfl rfl co58 ((bare_spec 6 (by omega) n m s c w _).mono ?_))
  rintro _ _ ⟨rfl, rfl⟩
  refine qO rfl <| op_not rfl rfl <| qM rfl rfl rfl ?_
  refine wOps_case (fun h11 => ?_) (fun h11 => ?_)
  ·
   refine qS rfl <| qS rfl <| qS rfl <| qS rfl <| qP rfl rfl rfl rfl <| qM rfl rfl rfl <| qS rfl <| qS rfl <| qS rfl <| qS rfl <| qP rfl rfl rfl rfl <| qN <| mwp_cond_t rfl (rfl) <| mwp_seq <| qR rfl <| qA rfl rfl rfl <| qN <| mwp_ret ?_
   exact ret_tmp (.inr rfl) Tryz.results38 rfl (.of_eq (by rw [isVF_mk 6]; congr 1; symm; first | (rw [show bareF 6 _ = false by simpa using h11]; rfl) | (rw [w40f]; simp; done) | (rw [c40f]; simp; done))) (.bool _) ⟨rfl, rfl⟩
  ·
   refine qF rfl rfl rfl fo30_4 <| qL rfl rfl rfl rfl ta28 rfl <| qE rfl rfl Tryz.underlying28 rfl <| qC rfl rfl rfl rfl rfl <| qP rfl rfl rfl rfl <| qM rfl rfl rfl ?_
   refine wOps_case (fun h17 => ?_) (fun h17 => ?_)
   ·
    have w40f := decide_eq_false (by rw [encVs_length] at h17; simp at h17; omega : ¬ w.length ≤ 40)
    refine qS rfl <| qS rfl <| qS rfl <| qS rfl <| qP rfl rfl rfl rfl <| qN <| mwp_cond_t rfl (rfl) <| mwp_seq <| qR rfl <| qA rfl rfl rfl <| qN <| mwp_ret ?_
    exact ret_tmp (.inr rfl) Tryz.results38 rfl (.of_eq (by rw [isVF_mk 6]; congr 1; symm; first | (rw [show bareF 6 _ = false by simpa using h11]; rfl) | (rw [w40f]; simp; done) | (rw [c40f]; simp; done))) (.bool _) ⟨rfl, rfl⟩
   ·
    have w40t := decide_eq_true (by rw [encVs_length] at h17; simp at h17; omega : w.length ≤ 40)
    refine qF rfl rfl rfl fo30_3 <| qL rfl rfl rfl rfl ta27 rfl <| qE rfl rfl Tryz.underlying27 rfl <| qC rfl rfl rfl rfl rfl <| qP rfl rfl rfl rfl <| qN ?_
    refine mwp_cond_split rfl (fun h22 => ?_) (fun h22 => ?_)
    ·
     have c40f := decide_eq_false (by rw [List.length_map] at h22; simp at h22; omega : ¬ c.length ≤ 40)
     refine mwp_seq <| qR rfl <| qA rfl rfl rfl <| qN <| mwp_ret ?_
     exact ret_tmp (.inr rfl) Tryz.results38 rfl (.of_eq (by rw [isVF_mk 6]; congr 1; symm; first | (rw [show bareF 6 _ = false by simpa using h11]; rfl) | (rw [w40f]; simp; done) | (rw [c40f]; simp; done))) (.bool _) ⟨rfl, rfl⟩
    ·
     have c40t := decide_eq_true (by rw [List.length_map] at h22; simp at h22; omega : c.length ≤ 40)
     refine mwp_skip <| mwp_seq <| qR rfl <| qO rfl <| op_makeFunc rfl rfl rfl <| qO rfl <| op_alloc' rfl zm105 rfl rfl <| qO rfl <| op_store' rfl rfl rfl rfl sz105 rfl rfl (Nat.le_of_ble_eq_true rfl) rfl <| qN <| mwp_seq <| mwp_seq <| qR rfl <| qF rfl rfl rfl fo24_0 <| qL rfl rfl rfl rfl ta3 rfl <| qN <| mwp_block <| mwp_seq <| qR rfl <| qC rfl rfl rfl rfl rfl <| qA rfl rfl rfl <| qN <| mwp_cond_f rfl (rfl) <| mwp_seq <| qR rfl <| qC rfl rfl rfl rfl rfl ?_
     refine qA rfl rfl rfl <| qN <| mwp_cond_f rfl (rfl) <| mwp_seq <| qR rfl <| qC rfl rfl rfl rfl rfl <| qA rfl rfl rfl <| qN <| mwp_cond_f rfl (rfl) <| mwp_seq <| qR rfl <| qC rfl rfl rfl rfl rfl <| qA rfl rfl rfl <| qN <| mwp_cond_f rfl (rfl) <| mwp_seq <| qR rfl <| qC rfl rfl rfl rfl rfl <| qA rfl rfl rfl <| qN <| mwp_cond_f rfl (rfl) <| mwp_seq <| qR rfl ?_
     refine qC rfl rfl rfl rfl rfl <| qA rfl rfl rfl <| qN <| mwp_cond_t rfl (rfl) <| mwp_seq <| qR rfl <| qL rfl rfl rfl rfl ta30 rfl ?_
     refine wOps_op rfl (op_call rfl rfl rfl co64 ((isLast_spec n m s c w hv.1.1 hv.2.1.1 _).mono ?_))
     rintro _ _ ⟨rfl, rfl⟩
     refine qA rfl rfl rfl <| qN <| mwp_ret ?_
     exact ret_tmp (.inr rfl) Tryz.results38 rfl (.of_eq (by rw [isVF_mk 6]; rw [show bareF 6 _ = true by simpa using h11, w40t, c40t]; simp only [Bool.true_and, isVL, List.headD_cons, List.tail_cons]; rfl)) (.bool _) ⟨rfl, rfl⟩
 ·
  refine mcalls_body Tryz.func38 rfl Tryz.ntmps38 (Nat.le_of_ble_eq_true rfl) ?_
  refine mwp_seq <| qR rfl <| qB rfl rfl rfl rfl rfl <| qB rfl rfl rfl rfl rfl <| qA rfl rfl rfl <| qN <| mwp_seq <| mwp_seq <| qR rfl <| qF rfl rfl rfl fo24_0 <| qL rfl rfl rfl rfl ta3 rfl <| qL rfl rfl rfl rfl ta30 rfl ?_
  refine wOps_op rfl (op_call rfl rfl rfl co58 ((bare_spec 7 (by omega) n m s c w _).mono ?_))
  rintro _ _ ⟨rfl, rfl⟩
  refine qO rfl <| op_not rfl rfl <| qM rfl rfl rfl ?_
  refine wOps_case (fun h11 => ?_) (fun h11 => ?_)
  ·
   refine qS rfl <| qS rfl <| qS rfl <| qS rfl <| qP rfl rfl rfl rfl <| qM rfl rfl rfl <| qS rfl <| qS rfl <| qS rfl <| qS rfl <| qP rfl rfl rfl rfl <| qN <| mwp_cond_t rfl (rfl) <| mwp_seq <| qR rfl <| qA rfl rfl rfl <| qN <| mwp_ret ?_
   exact ret_tmp (.inr rfl) Tryz.results38 rfl (.of_eq (by rw [isVF_mk 7]; congr 1; symm; first | (rw [show bareF 7 _ = false by simpa using h11]; rfl) | (rw [w40f]; simp; done) | (rw [c40f]; simp; done))) (.bool _) ⟨rfl, rfl⟩
  ·
   refine qF rfl rfl rfl fo30_4 <| qL rfl rfl rfl rfl ta28 rfl <| qE rfl rfl Tryz.underlying28 rfl <| qC rfl rfl rfl rfl rfl <| qP rfl rfl rfl rfl <| qM rfl rfl rfl ?_
   refine wOps_case (fun h17 => ?_) (fun h17 => ?_)
   ·
    have w40f := decide_eq_false (by rw [encVs_length] at h17; simp at h17; omega : ¬ w.length ≤ 40)
    refine qS rfl <| qS rfl <| qS rfl <| qS rfl <| qP rfl rfl rfl rfl <| qN <| mwp_cond_t rfl (rfl) <| mwp_seq <| qR rfl <| qA rfl rfl rfl <| qN <| mwp_ret ?_
    exact ret_tmp (.inr rfl) Tryz.results38 rfl (.of_eq (by rw [isVF_mk 7]; congr 1; symm; first | (rw [show bareF 7 _ = false by simpa using h11]; rfl) | (rw [w40f]; simp; done) | (rw [c40f]; simp; done))) (.bool _) ⟨rfl, rfl⟩
   ·
    have w40t := decide_eq_true (by rw [encVs_length] at h17; simp at h17; omega : w.length ≤ 40)
    refine qF rfl rfl rfl fo30_3 <| qL rfl rfl rfl rfl ta27 rfl <| qE rfl rfl Tryz.underlying27 rfl <| qC rfl rfl rfl rfl rfl <| qP rfl rfl rfl rfl <| qN ?_
    refine mwp_cond_split rfl (fun h22 => ?_) (fun h22 => ?_)
    ·
     have c40f := decide_eq_false (by rw [List.length_map] at h22; simp at h22; omega : ¬ c.length ≤ 40)
     refine mwp_seq <| qR rfl <| qA rfl rfl rfl <| qN <| mwp_ret ?_
     exact ret_tmp (.inr rfl) Tryz.results38 rfl (.of_eq (by rw [isVF_mk 7]; congr 1; symm; first | (rw [show bareF 7 _ = false by simpa using h11]; rfl) | (rw [w40f]; simp; done) | (rw [c40f]; simp; done))) (.bool _) ⟨rfl, rfl⟩
    ·
     have c40t := decide_eq_true (by rw [List.length_map] at h22; simp at h22; omega : c.length ≤ 40)
     refine mwp_skip <| mwp_seq <| qR rfl <| qO rfl <| op_makeFunc rfl rfl rfl <| qO rfl <| op_alloc' rfl zm105 rfl rfl <| qO rfl <| op_store' rfl rfl rfl rfl sz105 rfl rfl (Nat.le_of_ble_eq_true rfl) rfl <| qN <| mwp_seq <| mwp_seq <| qR rfl <| qF rfl rfl rfl fo24_0 <| qL rfl rfl rfl rfl ta3 rfl <| qN <| mwp_block <| mwp_seq <| qR rfl <| qC rfl rfl rfl rfl rfl <| qA rfl rfl rfl <| qN <| mwp_cond_f rfl (rfl) <| mwp_seq <| qR rfl <| qC rfl rfl rfl rfl rfl ?_
     refine qA rfl rfl rfl <| qN <| mwp_cond_f rfl (rfl) <| mwp_seq <| qR rfl <| qC rfl rfl rfl rfl rfl <| qA rfl rfl rfl <| qN <| mwp_cond_f rfl (rfl) <| mwp_seq <| qR rfl <| qC rfl rfl rfl rfl rfl <| qA rfl rfl rfl <| qN <| mwp_cond_f rfl (rfl) <| mwp_seq <| qR rfl <| qC rfl rfl rfl rfl rfl <| qA rfl rfl rfl <| qN <| mwp_cond_f rfl (rfl) <| mwp_seq <| qR rfl ?_
     refine qC rfl rfl rfl rfl rfl <| qA rfl rfl rfl <| qN <| mwp_cond_f rfl (rfl) <| mwp_seq <| qR rfl <| qC rfl rfl rfl rfl rfl <| qA rfl rfl rfl <| qN <| mwp_cond_t rfl (rfl) <| mwp_seq <| qR rfl <| qF rfl rfl rfl fo30_3 <| qL rfl rfl rfl rfl ta27 rfl <| qE rfl rfl Tryz.underlying27 rfl <| qC rfl rfl rfl rfl rfl <| qM rfl rfl rfl ?_
     refine wOps_case (fun h97 => ?_) (fun h97 => ?_)
     ·
      refine qS rfl <| qS rfl <| qS rfl <| qS rfl <| qS rfl <| qS rfl <| qS rfl <| qS rfl <| qS rfl <| qS rfl <| qS rfl <| qS rfl <| qS rfl <| qS rfl <| qS rfl <| qS rfl <| qS rfl <| qS rfl <| qS rfl <| qP rfl rfl rfl rfl <| qA rfl rfl rfl <| qN <| mwp_ret ?_
      exact ret_tmp (.inr rfl) Tryz.results38 rfl (.of_eq (by rw [isVF_mk 7]; rw [show bareF 7 _ = true by simpa using h11, w40t, c40t]; simp only [Bool.true_and, isVL, List.headD_cons, List.tail_cons]; first | (congr 1; symm; rw [if_neg (by decide), if_neg (by decide), if_neg (by decide), if_neg (by decide), if_neg (by decide), if_neg (by decide), if_pos True.intro]; exact hm2) | (congr 1; rw [Bool.eq_iff_iff]; simp_all))) (.bool _) ⟨rfl, rfl⟩
     ·
      have hc0 : ¬ c = [] := by simpa using h97
      refine qF rfl rfl rfl fo30_3 <| qL rfl rfl rfl rfl ta27 rfl <| qE rfl rfl Tryz.underlying27 rfl <| qC rfl rfl rfl rfl rfl <| qM rfl rfl rfl ?_
      refine wOps_case (fun h102 => ?_) (fun h102 => ?_)
      ·
       obtain ⟨c0, rfl⟩ := one_of (by rw [List.length_map] at h102; simp at h102; omega : c.length = 1)
       refine qF rfl rfl rfl fo30_3 <| qL rfl rfl rfl rfl ta27 rfl <| qO rfl <| op_indexAddr rfl Tryz.underlying27 sz70 (by decide) rfl rfl rfl (show _ = some (encC c0) from rfl) ?_
       refine qO rfl <| op_load_sptr rfl rfl ta70 rfl <| qE rfl rfl Tryz.underlying70 rfl <| qC rfl rfl rfl rfl rfl <| qP rfl rfl rfl rfl <| qM rfl rfl rfl ?_
       refine wOps_case (fun h110 => ?_) (fun h110 => ?_)
       ·
        refine qF rfl rfl rfl fo30_3 <| qL rfl rfl rfl rfl ta27 rfl <| qO rfl <| op_indexAddr rfl Tryz.underlying27 sz70 (by decide) rfl rfl rfl (show _ = some (encC c0) from rfl) ?_
        refine qO rfl <| op_load_sptr rfl rfl ta70 rfl ?_
        refine wOps_op rfl (op_call rfl rfl rfl co65 ((clkIs_spec c0 _).mono ?_))
        rintro _ _ ⟨rfl, rfl⟩
        refine qP rfl rfl rfl rfl <| qP rfl rfl rfl rfl <| qA rfl rfl rfl <| qN <| mwp_ret ?_
        exact ret_tmp (.inr rfl) Tryz.results38 rfl (.of_eq (by rw [isVF_mk 7]; rw [show bareF 7 _ = true by simpa using h11, w40t, c40t]; simp only [Bool.true_and, isVL, List.headD_cons, List.tail_cons]; first | (congr 1; symm; rw [if_neg (by decide), if_neg (by decide), if_neg (by decide), if_neg (by decide), if_neg (by decide), if_neg (by decide), if_pos True.intro]; exact hm2) | (congr 1; rw [Bool.eq_iff_iff]; simp_all))) (.bool _) ⟨rfl, rfl⟩
       ·
        refine qS rfl <| qS rfl <| qS rfl <| qS rfl <| qS rfl <| qP rfl rfl rfl rfl <| qP rfl rfl rfl rfl <| qA rfl rfl rfl <| qN <| mwp_ret ?_
        exact ret_tmp (.inr rfl) Tryz.results38 rfl (.of_eq (by rw [isVF_mk 7]; rw [show bareF 7 _ = true by simpa using h11, w40t, c40t]; simp only [Bool.true_and, isVL, List.headD_cons, List.tail_cons]; first | (congr 1; symm; rw [if_neg (by decide), if_neg (by decide), if_neg (by decide), if_neg (by decide), if_neg (by decide), if_neg (by decide), if_pos True.intro]; exact hm2) | (congr 1; rw [Bool.eq_iff_iff]; simp_all))) (.bool _) ⟨rfl, rfl⟩
      ·
       have hm2 := match1_no hc0 (by rw [List.length_map] at h102; simp at h102; omega : c.length ≠ 1)
       refine qS rfl <| qS rfl <| qS rfl <| qS rfl <| qS rfl <| qS rfl <| qP rfl rfl rfl rfl <| qM rfl rfl rfl <| qS rfl <| qS rfl <| qS rfl <| qS rfl <| qS rfl <| qP rfl rfl rfl rfl <| qP rfl rfl rfl rfl <| qA rfl rfl rfl <| qN <| mwp_ret ?_
       exact ret_tmp (.inr rfl) Tryz.results38 rfl (.of_eq (by rw [isVF_mk 7]; rw [show bareF 7 _ = true by simpa using h11, w40t, c40t]; simp only [Bool.true_and, isVL, List.headD_cons, List.tail_cons]; first | (congr 1; symm; rw [if_neg (by decide), if_neg (by decide), if_neg (by decide), if_neg (by decide), if_neg (by decide), if_neg (by decide), if_pos True.intro]; exact hm2) | (congr 1; rw [Bool.eq_iff_iff]; simp_all))) (.bool _) ⟨rfl, rfl⟩
 ·
  obtain ⟨⟨k1, i1⟩, rfl⟩ := one_ins hd.1 (by decide)
  have ih1 := ih (.mk k1 i1) (hd.2 _ (by simp))
  refine mcalls_body Tryz.func38 rfl Tryz.ntmps38 (Nat.le_of_ble_eq_true rfl) ?_
  refine mwp_seq <| qR rfl <| qB rfl rfl rfl rfl rfl <| qB rfl rfl rfl rfl rfl <| qA rfl rfl rfl <| qN <| mwp_seq <| mwp_seq <| qR rfl <| qF rfl rfl rfl fo24_0 <| qL rfl rfl rfl rfl ta3 rfl <| qL rfl rfl rfl rfl ta30 rfl ?_
  refine wOps_op rfl (op_call rfl rfl rfl co58 ((bare_spec 8 (by omega) n m s c w _).mono ?_))
  rintro _ _ ⟨rfl, rfl⟩
  refine qO rfl <| op_not rfl rfl <| qM rfl rfl rfl ?_
  refine wOps_case (fun h11 => ?_) (fun h11 => ?_)
  ·
   refine qS rfl <| qS rfl <| qS rfl <| qS rfl <| qP rfl rfl rfl rfl <| qM rfl rfl rfl <| qS rfl <| qS rfl <| qS rfl <| qS rfl <| qP rfl rfl rfl rfl <| qN <| mwp_cond_t rfl (rfl) <| mwp_seq <| qR rfl <| qA rfl rfl rfl <| qN <| mwp_ret ?_
   exact ret_tmp (.inr rfl) Tryz.results38 rfl (.of_eq (by rw [isVF_mk 8]; congr 1; symm; first | (rw [show bareF 8 _ = false by simpa using h11]; rfl) | (rw [w40f]; simp; done) | (rw [c40f]; simp; done))) (.bool _) ⟨rfl, rfl⟩
  ·
   refine qF rfl rfl rfl fo30_4 <| qL rfl rfl rfl rfl ta28 rfl <| qE rfl rfl Tryz.underlying28 rfl <| qC rfl rfl rfl rfl rfl <| qP rfl rfl rfl rfl <| qM rfl rfl rfl ?_
   refine wOps_case (fun h17 => ?_) (fun h17 => ?_)
   ·
    have w40f := decide_eq_false (by rw [encVs_length] at h17; simp at h17; omega : ¬ w.length ≤ 40)
    refine qS rfl <| qS rfl <| qS rfl <| qS rfl <| qP rfl rfl rfl rfl <| qN <| mwp_cond_t rfl (rfl) <| mwp_seq <| qR rfl <| qA rfl rfl rfl <| qN <| mwp_ret ?_
    exact ret_tmp (.inr rfl) Tryz.results38 rfl (.of_eq (by rw [isVF_mk 8]; congr 1; symm; first | (rw [show bareF 8 _ = false by simpa using h11]; rfl) | (rw [w40f]; simp; done) | (rw [c40f]; simp; done))) (.bool _) ⟨rfl, rfl⟩
   ·
    have w40t := decide_eq_true (by rw [encVs_length] at h17; simp at h17; omega : w.length ≤ 40)
    refine qF rfl rfl rfl fo30_3 <| qL rfl rfl rfl rfl ta27 rfl <| qE rfl rfl Tryz.underlying27 rfl <| qC rfl rfl rfl rfl rfl <| qP rfl rfl rfl rfl <| qN ?_
    refine mwp_cond_split rfl (fun h22 => ?_) (fun h22 => ?_)
    ·
     have c40f := decide_eq_false (by rw [List.length_map] at h22; simp at h22; omega : ¬ c.length ≤ 40)
     refine mwp_seq <| qR rfl <| qA rfl rfl rfl <| qN <| mwp_ret ?_
     exact ret_tmp (.inr rfl) Tryz.results38 rfl (.of_eq (by rw [isVF_mk 8]; congr 1; symm; first | (rw [show bareF 8 _ = false by simpa using h11]; rfl) | (rw [w40f]; simp; done) | (rw [c40f]; simp; done))) (.bool _) ⟨rfl, rfl⟩
    ·
     have c40t := decide_eq_true (by rw [List.length_map] at h22; simp at h22; omega : c.length ≤ 40)
     refine mwp_skip <| mwp_seq <| qR rfl <| qO rfl <| op_makeFunc rfl rfl rfl <| qO rfl <| op_alloc' rfl zm105 rfl rfl <| qO rfl <| op_store' rfl rfl rfl rfl sz105 rfl rfl (Nat.le_of_ble_eq_true rfl) rfl <| qN <| mwp_seq <| mwp_seq <| qR rfl <| qF rfl rfl rfl fo24_0 <| qL rfl rfl rfl rfl ta3 rfl <| qN <| mwp_block <| mwp_seq <| qR rfl <| qC rfl rfl rfl rfl rfl <| qA rfl rfl rfl <| qN <| mwp_cond_f rfl (rfl) <| mwp_seq <| qR rfl <| qC rfl rfl rfl rfl rfl ?_
     refine qA rfl rfl rfl <| qN <| mwp_cond_f rfl (rfl) <| mwp_seq <| qR rfl <| qC rfl rfl rfl rfl rfl <| qA rfl rfl rfl <| qN <| mwp_cond_f rfl (rfl) <| mwp_seq <| qR rfl <| qC rfl rfl rfl rfl rfl <| qA rfl rfl rfl <| qN <| mwp_cond_f rfl (rfl) <| mwp_seq <| qR rfl <| qC rfl rfl rfl rfl rfl <| qA rfl rfl rfl <| qN <| mwp_cond_f rfl (rfl) <| mwp_seq <| qR rfl ?_
     refine qC rfl rfl rfl rfl rfl <| qA rfl rfl rfl <| qN <| mwp_cond_f rfl (rfl) <| mwp_seq <| qR rfl <| qC rfl rfl rfl rfl rfl <| qA rfl rfl rfl <| qN <| mwp_cond_f rfl (rfl) <| mwp_skip <| mwp_seq <| qR rfl <| qF rfl rfl rfl fo30_3 <| qL rfl rfl rfl rfl ta27 rfl <| qE rfl rfl Tryz.underlying27 rfl <| qF rfl rfl rfl fo30_4 <| qL rfl rfl rfl rfl ta28 rfl <| qE rfl rfl Tryz.underlying28 rfl <| qC rfl rfl rfl rfl rfl ?_
     refine qM rfl rfl rfl ?_
     refine wOps_case (fun h125 => ?_) (fun h125 => ?_)
     ·
      have hsl : c.length = w.length := by rw [List.length_map, encVs_length] at h125; simp at h125; omega
      refine qF rfl rfl rfl fo30_3 <| qL rfl rfl rfl rfl ta27 rfl ?_
      refine wOps_op rfl (op_call rfl rfl rfl co66 ((isCause_spec c _).mono ?_))
      rintro _ _ ⟨rfl, rfl⟩
      refine qP rfl rfl rfl rfl <| qM rfl rfl rfl ?_
      refine wOps_case (fun h130 => ?_) (fun h130 => ?_)
      ·
       refine qF rfl rfl rfl fo30_4 <| qL rfl rfl rfl rfl ta28 rfl <| qO rfl <| op_makeFunc rfl rfl rfl ?_
       refine wOps_op rfl (op_call rfl rfl rfl co61 ((vContains_spec _ w (fun x => !isVF (.mk k1 i1) x) _ [] [.ref (S.length + 2) 0] co67 (fun x hx X => is3v_spec 8 k1 i1 [] (isVF (.mk k1 i1)) ih1 x (hvs x hx) _ _ _ (get_mid_ (k := 2) rfl) (get_mid_ (k := 0) rfl))).mono ?_))
       rintro _ _ ⟨rfl, rfl⟩
       refine qO rfl <| op_not rfl rfl <| qP rfl rfl rfl rfl <| qA rfl rfl rfl <| qN <| mwp_ret ?_
       exact ret_tmp (.inr rfl) Tryz.results38 rfl (.of_eq (by rw [isVF_mk 8]; rw [show bareF 8 _ = true by simpa using h11, w40t, c40t]; simp only [Bool.true_and, isVL, List.headD_cons, List.tail_cons]; congr 1; rw [Bool.eq_iff_iff]; simp_all [encVs_length, any_all'])) (.bool _) ⟨rfl, rfl⟩
      ·
       refine qS rfl <| qS rfl <| qS rfl <| qS rfl <| qS rfl <| qP rfl rfl rfl rfl <| qA rfl rfl rfl <| qN <| mwp_ret ?_
       exact ret_tmp (.inr rfl) Tryz.results38 rfl (.of_eq (by rw [isVF_mk 8]; rw [show bareF 8 _ = true by simpa using h11, w40t, c40t]; simp only [Bool.true_and, isVL, List.headD_cons, List.tail_cons]; congr 1; rw [Bool.eq_iff_iff]; simp_all [encVs_length, any_all'])) (.bool _) ⟨rfl, rfl⟩
     ·
      have hsl : ¬ c.length = w.length := by rw [List.length_map, encVs_length] at h125; simp at h125; omega
      refine qS rfl <| qS rfl <| qS rfl <| qP rfl rfl rfl rfl <| qM rfl rfl rfl <| qS rfl <| qS rfl <| qS rfl <| qS rfl <| qS rfl <| qP rfl rfl rfl rfl <| qA rfl rfl rfl <| qN <| mwp_ret ?_
      exact ret_tmp (.inr rfl) Tryz.results38 rfl (.of_eq (by rw [isVF_mk 8]; rw [show bareF 8 _ = true by simpa using h11, w40t, c40t]; simp only [Bool.true_and, isVL, List.headD_cons, List.tail_cons]; congr 1; rw [Bool.eq_iff_iff]; simp_all [encVs_length, any_all'])) (.bool _) ⟨rfl, rfl⟩
end Go.Proofs.YthkikhggmbiffaaGreat
end
section
set_option linter.unusedVariables false
set_option linter.unusedSimpArgs false
set_option maxRecDepth 20000
set_option maxHeartbeats 400000
namespace Go.Proofs.YthkikhggmbiffaaGreat
open Go Go.MV Go.RowKit
theorem op_load_own {P : Program} {rd : Option Nat} {o : Oper} {env : Env} {K : MV → MS → Prop} {S S1 L : MS} {t : TypeId} {x : Operand} {k off : Nat} {l : List MV} {ta : Option Nat} {m : MV} (hlen : S1.length = S.length) (ho : o.op = .load t x) (hx : evo env x = some (.ref (S.length + k) off)) (hσ : L[k]? = some (.cells l)) (ht : tyAgg P t = some ta) (hm : loadMV ta l off = some m) (h : K m (S1 ++ L)) : OpWp P rd o env (S1 ++ L) K :=
 op_load_ref ho hx (by rw [own_getS hlen]; exact hσ) ht hm h
theorem op_store_own {P : Program} {rd : Option Nat} {o : Oper} {env : Env} {K : MV → MS → Prop} {S S1 L L' : MS} {t : TypeId} {x y : Operand} {i off : Nat} {l : List MV} {m : MV} {k : Nat} (hlen : S1.length = S.length) (ho : o.op = .store t x y) (hx : evo env x = some (.ref (S.length + i) off)) (hy : evo env y = some m) (hσ : L[i]? = some (.cells l)) (hk : szOf P t = some k) (hm : m.cells.length = k)
  (h1 : m.cells.all MV.one = true) (hle : off + k ≤ l.length) (hL : L.set i (.cells (setMany l off m.cells)) = L') (h : K (.tup []) (S1 ++ L')) : OpWp P rd o env (S1 ++ L) K := by
 refine op_store ho hx hy (by rw [own_getS hlen]; exact hσ) hk hm h1 hle ?_
 rw [own_setS hlen, hL]
 exact h
def flatM (k : Int) (r : RdS) : Val × RdS := if k = 3 then (.mk 0 0 (rowM textM r).1 [] [], (rowM textM r).2) else (.mk ((numM r).1 : Int) 0 [] [] [], (numM r).2)
theorem flatM_len (k : Int) (r : RdS) : (flatM k r).2.1.length ≤ r.1.length := by
 unfold flatM
 split
 ·exact rowM_len textM_len r
 ·exact (numM_len r).1
theorem flat_reads (k : Int) (ins : List Sch) (hk : k = 1 ∨ k = 2 ∨ k = 3) (id : Nat) : Reads 25 [.ref id 0, encS (.mk k ins)] id encV (flatM k) := by
 intro r S h hlen
 rcases hk with rfl | rfl | rfl
 ·
  refine mcalls_body Tryz.func25 rfl Tryz.ntmps25 (Nat.le_of_ble_eq_true rfl) ?_
  refine mwp_facts fun _ hcl => ?_
  have hcl0 := hcl
  rw [List.append_nil] at hcl
  refine mwp_seq <| qR rfl <| qB rfl rfl rfl rfl rfl <| qB rfl rfl rfl rfl rfl <| qO rfl <| op_alloc' rfl zm30 rfl rfl <| qN <| mwp_seq <| qR rfl <| qO rfl <| op_alloc' rfl zm30 rfl rfl <| qN <| mwp_seq <| qR rfl <| qO rfl <| op_makeFunc rfl rfl rfl <| qO rfl <| op_alloc' rfl zm83 rfl rfl <| qO rfl <| op_store_own (by simp) rfl rfl rfl rfl sz83 rfl rfl (Nat.le_of_ble_eq_true rfl) rfl ?_
  refine qN <| mwp_seq <| mwp_seq <| qR rfl <| qF rfl rfl rfl fo24_0 <| qO rfl <| op_load_own (by simp) rfl rfl rfl ta3 rfl ?_
  refine qN <| mwp_block <| mwp_seq <| mwp_seq <| qR rfl <| qC rfl rfl rfl rfl rfl <| qA rfl rfl rfl <| qN <| mwp_cond_t rfl (rfl) <| mwp_skip <| mwp_cond_t rfl (rfl) <| qR rfl <| qO rfl <| op_load_own (by simp) rfl rfl rfl ta62 rfl ?_
  refine wOps_op rfl (op_call rfl rfl rfl co44 (((num_reads id).sl h hlen).mono ?_))
  rintro _ _ ⟨rfl, rfl⟩
  refine qF rfl rfl rfl fo30_0 <| qO rfl <| op_store_own (by simp) rfl rfl rfl rfl sz25 rfl rfl (Nat.le_of_ble_eq_true rfl) rfl ?_
  refine qN <| mwp_seq <| qR rfl <| qO rfl <| op_load_own (by simp) rfl rfl rfl ta30 rfl ?_
  refine qO rfl <| op_store_own (by simp) rfl rfl rfl rfl sz30 rfl rfl (Nat.le_of_ble_eq_true rfl) rfl ?_
  refine qN <| mwp_ret ?_
  exact ret_cellS (y := encV (.mk ((numM r).1 : Int) 0 [] [] [])) (by simp) (.inr rfl) Tryz.results25 rfl rfl ta30 rfl (.agg (.cons (.refl _) (.cons (.refl _) (.cons (.nil 1) (.cons (.nil 1) (.cons (.nil 5) .nil)))))) (cl_encV _ _) (hcl.set (rd_cl _ _)) ⟨rfl, rfl⟩
 ·
  refine mcalls_body Tryz.func25 rfl Tryz.ntmps25 (Nat.le_of_ble_eq_true rfl) ?_
  refine mwp_facts fun _ hcl => ?_
  have hcl0 := hcl
  rw [List.append_nil] at hcl
  refine mwp_seq <| qR rfl <| qB rfl rfl rfl rfl rfl <| qB rfl rfl rfl rfl rfl <| qO rfl <| op_alloc' rfl zm30 rfl rfl <| qN <| mwp_seq <| qR rfl <| qO rfl <| op_alloc' rfl zm30 rfl rfl <| qN <| mwp_seq <| qR rfl <| qO rfl <| op_makeFunc rfl rfl rfl <| qO rfl <| op_alloc' rfl zm83 rfl rfl <| qO rfl <| op_store_own (by simp) rfl rfl rfl rfl sz83 rfl rfl (Nat.le_of_ble_eq_true rfl) rfl ?_
  refine qN <| mwp_seq <| mwp_seq <| qR rfl <| qF rfl rfl rfl fo24_0 <| qO rfl <| op_load_own (by simp) rfl rfl rfl ta3 rfl ?_
  refine qN <| mwp_block <| mwp_seq <| mwp_seq <| qR rfl <| qC rfl rfl rfl rfl rfl <| qA rfl rfl rfl <| qN <| mwp_cond_f rfl (rfl) <| qR rfl <| qC rfl rfl rfl rfl rfl <| qA rfl rfl rfl <| qN <| mwp_cond_t rfl (rfl) <| qR rfl <| qO rfl <| op_load_own (by simp) rfl rfl rfl ta62 rfl ?_
  refine wOps_op rfl (op_call rfl rfl rfl co44 (((num_reads id).sl h hlen).mono ?_))
  rintro _ _ ⟨rfl, rfl⟩
  refine qF rfl rfl rfl fo30_0 <| qO rfl <| op_store_own (by simp) rfl rfl rfl rfl sz25 rfl rfl (Nat.le_of_ble_eq_true rfl) rfl ?_
  refine qN <| mwp_seq <| qR rfl <| qO rfl <| op_load_own (by simp) rfl rfl rfl ta30 rfl ?_
  refine qO rfl <| op_store_own (by simp) rfl rfl rfl rfl sz30 rfl rfl (Nat.le_of_ble_eq_true rfl) rfl ?_
  refine qN <| mwp_ret ?_
  exact ret_cellS (y := encV (.mk ((numM r).1 : Int) 0 [] [] [])) (by simp) (.inr rfl) Tryz.results25 rfl rfl ta30 rfl (.agg (.cons (.refl _) (.cons (.refl _) (.cons (.nil 1) (.cons (.nil 1) (.cons (.nil 5) .nil)))))) (cl_encV _ _) (hcl.set (rd_cl _ _)) ⟨rfl, rfl⟩
 ·
  refine mcalls_body Tryz.func25 rfl Tryz.ntmps25 (Nat.le_of_ble_eq_true rfl) ?_
  refine mwp_facts fun _ hcl => ?_
  have hcl0 := hcl
  rw [List.append_nil] at hcl
  refine mwp_seq <| qR rfl <| qB rfl rfl rfl rfl rfl <| qB rfl rfl rfl rfl rfl <| qO rfl <| op_alloc' rfl zm30 rfl rfl <| qN <| mwp_seq <| qR rfl <| qO rfl <| op_alloc' rfl zm30 rfl rfl <| qN <| mwp_seq <| qR rfl <| qO rfl <| op_makeFunc rfl rfl rfl <| qO rfl <| op_alloc' rfl zm83 rfl rfl <| qO rfl <| op_store_own (by simp) rfl rfl rfl rfl sz83 rfl rfl (Nat.le_of_ble_eq_true rfl) rfl ?_
  refine qN <| mwp_seq <| mwp_seq <| qR rfl <| qF rfl rfl rfl fo24_0 <| qO rfl <| op_load_own (by simp) rfl rfl rfl ta3 rfl ?_
  refine qN <| mwp_block <| mwp_seq <| mwp_seq <| qR rfl <| qC rfl rfl rfl rfl rfl <| qA rfl rfl rfl <| qN <| mwp_cond_f rfl (rfl) <| qR rfl <| qC rfl rfl rfl rfl rfl <| qA rfl rfl rfl <| qN <| mwp_cond_f rfl (rfl) <| mwp_seq <| qR rfl <| qC rfl rfl rfl rfl rfl <| qA rfl rfl rfl <| qN <| mwp_cond_t rfl (rfl) ?_
  refine mwp_facts fun _ hcl2 => ?_
  refine qR rfl <| qO rfl <| op_load_own (by simp) rfl rfl rfl ta62 rfl ?_
  refine qO rfl <| op_load_own (by simp) rfl rfl rfl ta62 rfl ?_
  refine qO rfl <| op_makeFunc rfl rfl rfl ?_
  refine wOps_op rfl (op_call rfl rfl rfl co45 (((rowX_base co46 (text_reads id) textM_len r _ (get_sl h) (by assumption) hlen)).mono ?_))
  rintro _ _ ⟨rfl, rfl⟩
  rw [set_sl h]
  refine qF rfl rfl rfl fo30_2 <| qO rfl <| op_store_own (by simp) rfl rfl rfl rfl sz26 rfl rfl (Nat.le_of_ble_eq_true rfl) rfl ?_
  refine qN <| mwp_seq <| qR rfl <| qO rfl <| op_load_own (by simp) rfl rfl rfl ta30 rfl ?_
  refine qO rfl <| op_store_own (by simp) rfl rfl rfl rfl sz30 rfl rfl (Nat.le_of_ble_eq_true rfl) rfl ?_
  refine qN <| mwp_ret ?_
  exact ret_cellS (y := encV (.mk 0 0 (rowM textM r).1 [] [])) (by simp) (.inr rfl) Tryz.results25 rfl rfl ta30 rfl (.agg (.cons (.refl _) (.cons (.refl _) (.cons (.refl _) (.cons (.nil 1) (.cons (.nil 5) .nil)))))) (cl_encV _ _) (hcl.set (rd_cl _ _)) ⟨rfl, rfl⟩
end Go.Proofs.YthkikhggmbiffaaGreat
end
section
set_option linter.unusedVariables false
set_option linter.unusedSimpArgs false
set_option maxRecDepth 20000
set_option maxHeartbeats 400000
namespace Go.Proofs.YthkikhggmbiffaaGreat
open Go Go.MV Go.RowKit
theorem get_neK {S : MS} {i k : Nat} {o p : MObj} (hne : i ≠ k) (h : S[k]? = some p) : (S.set i o)[k]? = some p := by rw [List.getElem?_set_ne hne]; exact h
def lastM (r : RdS) : Val × RdS :=
 if (numM r).1 = 0 then (noV, (numM r).2)
 else if (numM r).1 = 1 then (.mk ((numM (numM r).2).1 : Int) ((numM (numM (numM r).2).2).1 : Int) [(textM (numM (numM (numM r).2).2).2).1] [] [], (textM (numM (numM (numM r).2).2).2).2)
 else (noV, failR 10 (numM r).2)
def oneClockM (r : RdS) : Val × RdS := (.mk 0 0 [] (if (clockM r).1.length = 0 then [] else [(clockM r).1]) [], (clockM r).2)
def entM (M : RdS → Val × RdS) (r : RdS) (c : List Bs) : Val × RdS × List Bs := ((M (textM r).2).1, (M (textM r).2).2, c ++ [(textM r).1])
def sibM (M : RdS → Val × RdS) (r : RdS) (c : List (List Tk)) : Val × RdS × List (List Tk) := ((M (clockM r).2).1, (M (clockM r).2).2, c ++ [(clockM r).1])
def pairM (M N : RdS → Val × RdS) (r : RdS) : Val × RdS := (.mk 0 0 [] [] [(M r).1, (N (M r).2).1], (N (M r).2).2)
def mapM (M : RdS → Val × RdS) (r : RdS) : Val × RdS := (.mk 0 0 (rowC (entM M) r []).2.2 [] (rowC (entM M) r []).1, (rowC (entM M) r []).2.1)
def sibsM (M : RdS → Val × RdS) (r : RdS) : Val × RdS := (.mk 0 0 [] (rowC (sibM M) r []).2.2 (rowC (sibM M) r []).1, (rowC (sibM M) r []).2.1)
def kindM (k : Int) (fs : List (RdS → Val × RdS)) : RdS → Val × RdS :=
 if k = 1 ∨ k = 2 ∨ k = 3 then flatM k else if k = 4 then mapM (fs.headD lastM) else if k = 5 then pairM (fs.headD lastM) (fs.tail.headD lastM) else if k = 6 then lastM else if k = 7 then oneClockM else sibsM (fs.headD lastM)
mutual
def valueM : Sch → RdS → Val × RdS
 | .mk k ins => kindM k (valueMs ins)
def valueMs : List Sch → List (RdS → Val × RdS)
 | [] => []
 | s :: l => valueM s :: valueMs l
end
theorem clockM_len (r : RdS) : (clockM r).2.1.length ≤ r.1.length := rowM_len tickM_len r
theorem last_reads (id : Nat) : Reads 49 [.ref id 0] id encV lastM := by
 intro r S h hlen
 have hn1 := numM_len r
 have hn2 := numM_len (numM r).2
 have hn3 := numM_len (numM (numM r).2).2
 refine mcalls_body Tryz.func49 rfl Tryz.ntmps49 (Nat.le_of_ble_eq_true rfl) ?_
 refine mwp_facts fun _ hcl => ?_
 have hcl0 := hcl
 rw [List.append_nil] at hcl
 refine mwp_seq <| qR rfl <| qO rfl <| op_alloc' rfl zm30 rfl rfl <| qN <| mwp_seq <| mwp_seq <| qR rfl <| qM rfl rfl rfl ?_
 refine wOps_op rfl (op_call rfl rfl rfl co44 (((num_reads id).sl h hlen).mono ?_))
 rintro _ _ ⟨rfl, rfl⟩
 refine qA rfl rfl rfl <| qN <| mwp_seq <| qR rfl <| qM rfl rfl rfl <| qN <| mwp_block <| mwp_seq <| qR rfl <| qC rfl rfl rfl rfl rfl <| qA rfl rfl rfl <| qN ?_
 refine mwp_cond_split rfl (fun h7 => ?_) (fun h7 => ?_)
 ·
  have h0 : (numM r).1 = 0 := by simp at h7; omega
  refine mwp_seq <| qR rfl <| qO rfl <| op_build rfl Tryz.underlying30 zm30 .nil (by kernel_rfl) ?_
  refine qO rfl <| op_store_own (by simp) rfl rfl rfl rfl sz30 rfl rfl (Nat.le_of_ble_eq_true rfl) rfl ?_
  refine qN <| mwp_ret ?_
  exact ret_cellS (y := encV noV) (by simp) (.inr rfl) Tryz.results49 rfl rfl ta30 rfl (.agg (.cons (.refl _) (.cons (.refl _) (.cons (.nil 1) (.cons (.nil 1) (.cons (.nil 5) .nil)))))) (cl_encV _ _) (hcl.set (rd_cl _ _)) ⟨by rw [lastM, if_pos h0], by rw [lastM, if_pos h0]⟩
 ·
  have h0 : ¬ (numM r).1 = 0 := by simp at h7; omega
  refine mwp_seq <| qR rfl <| qC rfl rfl rfl rfl rfl <| qA rfl rfl rfl <| qN ?_
  refine mwp_cond_split rfl (fun h10 => ?_) (fun h10 => ?_)
  ·
   have h1 : (numM r).1 = 1 := by simp at h10; omega
   refine mwp_seq <| qR rfl <| qM rfl rfl rfl ?_
   refine wOps_op rfl (op_call rfl rfl rfl co44 (((num_reads id).sl (r := (numM r).2) (get_set h) (by omega)).mono ?_))
   rintro _ _ ⟨rfl, rfl⟩
   rw [set_set]
   refine qM rfl rfl rfl ?_
   refine wOps_op rfl (op_call rfl rfl rfl co44 (((num_reads id).sl (r := (numM (numM r).2).2) (get_set h) (by omega)).mono ?_))
   rintro _ _ ⟨rfl, rfl⟩
   rw [set_set]
   refine qM rfl rfl rfl ?_
   refine wOps_op rfl (op_call rfl rfl rfl co46 (((text_reads id).sl (r := (numM (numM (numM r).2).2).2) (get_set h) (by omega)).mono ?_))
   rintro _ _ ⟨rfl, rfl⟩
   rw [set_set]
   refine qO rfl <| op_buildSlice rfl Tryz.underlying26 el9 rfl rfl (by decide) (by decide) rfl rfl ?_
   refine qO rfl <| op_build rfl Tryz.underlying30 zm30 (.cons fo30_0 sz25 rfl rfl (Nat.le_of_ble_eq_true rfl) (.cons fo30_1 sz25 rfl rfl (Nat.le_of_ble_eq_true rfl) (.cons fo30_2 sz26 rfl rfl (Nat.le_of_ble_eq_true rfl) .nil))) (by kernel_rfl) ?_
   refine qO rfl <| op_store_own (by simp) rfl rfl rfl rfl sz30 rfl rfl (Nat.le_of_ble_eq_true rfl) rfl ?_
   refine qN <| mwp_ret ?_
   exact ret_cellS (y := encV (.mk ((numM (numM r).2).1 : Int) ((numM (numM (numM r).2).2).1 : Int) [(textM (numM (numM (numM r).2).2).2).1] [] [])) (by simp) (.inr rfl) Tryz.results49 rfl rfl ta30 rfl (.agg (.cons (.refl _) (.cons (.refl _) (.cons (.refl _) (.cons (.nil 1) (.cons (.nil 5) .nil)))))) (cl_encV _ _) (hcl.set (rd_cl _ _)) ⟨by rw [lastM, if_neg h0, if_pos h1], by rw [lastM, if_neg h0, if_pos h1]⟩
  ·
   have h1 : ¬ (numM r).1 = 1 := by simp at h10; omega
   refine mwp_skip <| mwp_seq <| qR rfl <| qM rfl rfl rfl ?_
   refine wOps_op rfl (op_call rfl rfl rfl co26 ((fails_spec id (numM r).2 _ _ (get_set h) _).mono ?_))
   rintro _ _ ⟨rfl, rfl⟩
   rw [set_set]
   refine qN <| mwp_seq <| qR rfl <| qO rfl <| op_build rfl Tryz.underlying30 zm30 .nil (by kernel_rfl) ?_
   refine qO rfl <| op_store_own (by simp) rfl rfl rfl rfl sz30 rfl rfl (Nat.le_of_ble_eq_true rfl) rfl ?_
   refine qN <| mwp_ret ?_
   exact ret_cellS (y := encV noV) (by simp) (.inr rfl) Tryz.results49 rfl rfl ta30 rfl (.agg (.cons (.refl _) (.cons (.refl _) (.cons (.nil 1) (.cons (.nil 1) (.cons (.nil 5) .nil)))))) (cl_encV _ _) (hcl.set (rd_cl _ _)) ⟨by rw [lastM, if_neg h0, if_neg h1], by rw [lastM, if_neg h0, if_neg h1]⟩
def ReadsIn {α : Type} (K : MS → Prop) (k : FuncId) (xs : List MV) (id : Nat) (en : α → MV) (M : RdS → α × RdS) : Prop := ∀ (r : RdS) (S : MS), K S → S[id]? = some (rdO r) → r.1.length ≤ 1000000 → MCalls Tryz.prog k xs S fun v σ' => v = en (M r).1 ∧ σ' = S.set id (rdO (M r).2)
theorem one_reads (k k1 : Int) (i1 rest : List Sch) (M : RdS → Val × RdS) (id rb sb : Nat) (hM : Reads 25 [.ref id 0, encS (.mk k1 i1)] id encV M) : ReadsIn (fun S => S[rb]? = some (.cells [.ref id 0]) ∧ S[sb]? = some (.cells [.int .i64 k, .lst none 2 (encSs (.mk k1 i1 :: rest))])) 43 ([] ++ [] ++ [.ref rb 0, .ref sb 0]) id encV M := by
 rintro r S ⟨hR, hS⟩ h hlen
 obtain ⟨q, hq⟩ : ∃ q, M r = q := ⟨_, rfl⟩
 obtain ⟨⟨n, m, s, c, w⟩, r1⟩ := q
 have hv := fun L => hM.sl (L := L) h hlen
 simp only [hq] at hv ⊢
 have hneR : id ≠ rb := fun e => by subst e; rw [h] at hR; simp [rdO] at hR
 have hneS : id ≠ sb := fun e => by subst e; rw [h] at hS; simp [rdO] at hS
 refine mcalls_body Tryz.func43 rfl Tryz.ntmps43 (Nat.le_of_ble_eq_true rfl) ?_
 refine mwp_facts fun _ hcl => ?_
 have hcl0 := hcl
 rw [List.append_nil] at hcl
 refine mwp_seq <| qR rfl <| qO rfl <| op_alloc' rfl zm30 rfl rfl <| qN <| mwp_seq ?_
 refine mwp_draw [5, 6] [_, S.set id (rdO r1) ++ [.cells [.int .u64 0, .int .u64 0, .lst0, .lst0, .lst0]], S.set id (rdO r1) ++ [.cells (encV (.mk n m s c w)).cells]] mo (by decide) rfl rfl rfl rfl ?_
 refine dO rfl rfl rfl (op_load_far rfl rfl (by first | exact hR | exact get_neK hneR hR) ta62 rfl ⟨rfl, rfl⟩) ?_
 refine dOps_op rfl rfl (.cons (op_fieldAddr_ref rfl rfl fo24_1 ⟨rfl, rfl⟩) (.cons (op_fieldAddr_ref rfl rfl fo24_1 ⟨rfl, rfl⟩) (.nil))) <| dOps_op rfl rfl (.cons (op_load_far rfl rfl (by first | exact hS | exact get_neK hneS hS) ta22 rfl ⟨rfl, rfl⟩) (.cons (op_load_far rfl rfl (by first | exact hS | exact get_neK hneS hS) ta22 rfl ⟨rfl, rfl⟩) (.nil))) ?_
 refine dOps_op rfl rfl (.cons (op_indexAddr rfl Tryz.underlying22 sz24 (by decide) rfl rfl rfl (show _ = some (encS (.mk k1 i1)) from rfl) ⟨rfl, rfl⟩) (.cons (op_indexAddr rfl Tryz.underlying22 sz24 (by decide) rfl rfl rfl (show _ = some (encS (.mk k1 i1)) from rfl) ⟨rfl, rfl⟩) (.nil))) ?_
 refine dO rfl rfl rfl (op_load_sptr rfl rfl ta24 rfl ⟨rfl, rfl⟩) <| dOps_eff rfl rfl rfl rfl (op_call rfl rfl rfl co25 (hv _)) <| dOps_eff rfl rfl rfl rfl (op_store_own (by simp) rfl rfl rfl rfl sz30 rfl rfl (Nat.le_of_ble_eq_true rfl) rfl ⟨rfl, rfl⟩) ?_
 refine dOps_nil <| mwp_ret ?_
 exact ret_cellS (y := encV (.mk n m s c w)) (by simp) (.inr rfl) Tryz.results43 rfl rfl ta30 rfl (.refl _) (cl_encV _ _) (hcl.set (rd_cl _ _)) ⟨rfl, rfl⟩
end Go.Proofs.YthkikhggmbiffaaGreat
end
section
set_option linter.unusedVariables false
set_option linter.unusedSimpArgs false
set_option maxRecDepth 20000
set_option maxHeartbeats 400000
namespace Go.Proofs.YthkikhggmbiffaaGreat
open Go Go.MV Go.RowKit
def z5 : List MV := [.int .u64 0, .int .u64 0, .lst0, .lst0, .lst0]
abbrev fOne (S : MS) : MV := .fn (.func 43) [] [.ref (S.length + 0) 0, .ref (S.length + 1) 0]
abbrev vM (S : MS) (a : List MV) : List MV := [.int .u64 0, .int .u64 0, .lst (some (S.length + 5)) 1 a, .lst0, .lst0]
abbrev vS (S : MS) (a : List MV) : List MV := [.int .u64 0, .int .u64 0, .lst0, .lst (some (S.length + 5)) 1 a, .lst0]
abbrev obJ (S : MS) (id : Nat) (k : Int) (ss : List Sch) (v : List MV) (ty n : Nat) : MS := [.cells [.ref id 0], .cells [.int .i64 k, .lst none 2 (encSs ss)], .cells z5, .cells v, .cells [fOne S], .row ty 1 n]
def sT (S : MS) (id : Nat) (k : Int) (ss : List Sch) (ty : Nat) (r : RdS) (v : List MV) (n : Nat) : MS := S.set id (rdO r) ++ obJ S id k ss v ty n
section
variable {S : MS} {id ty : Nat} {k : Int} {ss : List Sch} {r : RdS} {v : List MV} {n : Nat}
theorem sT_len : (sT S id k ss ty r v n).length = S.length + 6 := by simp [sT]
theorem sT_get {L : MS} {j : Nat} {o : MObj} (h : (obJ S id k ss v ty n)[j]? = some o) : (sT S id k ss ty r v n ++ L)[S.length + j]? = some o := by
 rw [List.getElem?_append_left (by rw [sT_len]; have := (List.getElem?_eq_some_iff.1 h).1; simp at this; omega), sT, own_getS (by simp)]
 exact h
theorem sT_rd {r0 : RdS} (hid : S[id]? = some (rdO r0)) : (sT S id k ss ty r v n)[id]? = some (rdO r) := get_sl (get_set hid)
theorem sT_set {r0 r' : RdS} (hid : S[id]? = some (rdO r0)) : (sT S id k ss ty r v n).set id (rdO r') = sT S id k ss ty r' v n := by
 unfold sT
 rw [List.set_append_left _ _ (by simpa using (List.getElem?_eq_some_iff.1 hid).1), set_set]
theorem sT_v {L : MS} {v' : List MV} : (sT S id k ss ty r v n ++ L).set (S.length + 3) (.cells v') = sT S id k ss ty r v' n ++ L := by
 rw [List.set_append_left _ _ (by rw [sT_len]; omega)]
 unfold sT
 rw [own_setS (by simp)]
 rfl
theorem sT_row {L : MS} {n' : Nat} : (sT S id k ss ty r v n ++ L).set (S.length + 5) (.row ty 1 n') = sT S id k ss ty r v n' ++ L := by
 rw [List.set_append_left _ _ (by rw [sT_len]; omega)]
 unfold sT
 rw [own_setS (by simp)]
 rfl
end
theorem ent_one (s1 : Sch) (rest : List Sch) {S : MS} {id : Nat} {r0 : RdS} (hid : S[id]? = some (rdO r0)) {M : RdS → Val × RdS} (hOne : ReadsIn (fun S' => S'[S.length + 0]? = some (.cells [.ref id 0]) ∧ S'[S.length + 1]? = some (.cells [.int .i64 4, .lst none 2 (encSs (s1 :: rest))])) 43 ([] ++ [] ++ [.ref (S.length + 0) 0, .ref (S.length + 1) 0]) id encV M)
  (hcls : ∀ r' (c' : List (Bs)) (L : MS) {r c}, ClS (sT S id 4 (s1 :: rest) 9 r (vM S ((c : List (Bs)).map encX)) c.length ++ L) → ClS (sT S id 4 (s1 :: rest) 9 r' (vM S (c'.map encX)) c'.length ++ L)) (r : RdS) (c : List (Bs)) (L : MS) (hlen : r.1.length ≤ 1000000) (hc40 : c.length ≤ 1000) :
  MCalls Tryz.prog 48 ([] ++ [] ++ [.ref (S.length + 3) 0, .ref (S.length + 0) 0, .ref (S.length + 4) 0]) (sT S id 4 (s1 :: rest) 9 r (vM S (c.map encX)) c.length ++ L) fun v σ' => v = encV (entM M r c).1 ∧ σ' = sT S id 4 (s1 :: rest) 9 (entM M r c).2.1 (vM S ((entM M r c).2.2.map encX)) (entM M r c).2.2.length ++ L := by
 have hml := textM_len r
 refine mcalls_body Tryz.func48 rfl Tryz.ntmps48 (Nat.le_of_ble_eq_true rfl) ?_
 refine mwp_facts fun _ hcl => ?_
 rw [List.append_nil] at hcl
 refine mwp_seq <| qR rfl <| qO rfl <| op_alloc' rfl zm30 rfl rfl <| qN <| mwp_seq ?_
 refine mwp_draw [3, 5, 7] [_, (sT S id 4 (s1 :: rest) 9 (textM r).2 (vM S (c.map encX)) c.length ++ L) ++ [.cells z5], (sT S id 4 (s1 :: rest) 9 (textM r).2 (vM S (c.map encX)) (c.length + 1) ++ L) ++ [.cells z5], (sT S id 4 (s1 :: rest) 9 (textM r).2 (vM S (c.map encX ++ [encX (textM r).1])) (c.length + 1) ++ L) ++ [.cells z5]] mo (by decide) rfl rfl rfl rfl ?_
 refine dOps_op rfl rfl (.cons (op_fieldAddr_ref rfl rfl fo30_2 ⟨rfl, rfl⟩) (.cons (op_fieldAddr_ref rfl rfl fo30_2 ⟨rfl, rfl⟩) (.cons (op_fieldAddr_ref rfl rfl fo30_2 ⟨rfl, rfl⟩) (.nil)))) <| dOps_op rfl rfl (.cons (op_load_ref rfl rfl (by rw [List.append_assoc]; exact sT_get rfl) ta26 rfl ⟨rfl, rfl⟩) (.cons (op_load_ref rfl rfl (by rw [List.append_assoc]; exact sT_get rfl) ta26 rfl ⟨rfl, rfl⟩) (.nil))) ?_
 refine dO rfl rfl rfl (op_load_ref rfl rfl (by rw [List.append_assoc]; exact sT_get rfl) ta62 rfl ⟨rfl, rfl⟩) ?_
 refine dOps_eff rfl rfl rfl rfl (op_call rfl rfl rfl co46 (((text_reads id).sl (S := sT S id 4 (s1 :: rest) 9 r (vM S (c.map encX)) c.length ++ L) (L := [.cells z5]) (get_sl (sT_rd hid)) hlen).mono fun v σ' hv => ⟨hv.1, hv.2.trans (by rw [set_sl (sT_rd hid), sT_set hid])⟩)) ?_
 refine dO rfl rfl rfl (op_buildSlice rfl Tryz.underlying26 el9 rfl rfl (by decide) (by decide) rfl rfl ⟨rfl, rfl⟩) ?_
 refine dOps_eff rfl rfl rfl rfl (op_append rfl Tryz.underlying26 el9 rfl rfl (by rw [List.append_assoc]; exact sT_get rfl) (by simp) (by simp; omega) (by simp; omega) ⟨rfl, by rw [List.append_assoc, sT_row, List.append_assoc]; rfl⟩) ?_
 refine dO rfl rfl rfl (op_fieldAddr_ref rfl rfl fo30_2 ⟨rfl, rfl⟩) <| dOps_eff rfl rfl rfl rfl (op_store rfl rfl rfl (by rw [List.append_assoc]; exact sT_get rfl) sz26 rfl rfl (Nat.le_of_ble_eq_true rfl) ⟨rfl, by rw [List.append_assoc, sT_v, List.append_assoc]; rfl⟩) ?_
 refine dOps_nil <| mwp_seq <| qR rfl <| qO rfl <| op_load_ref rfl rfl (by rw [List.append_assoc]; exact sT_get rfl) ta83 rfl ?_
 refine wOps_op rfl (op_call rfl rfl rfl co43 ((hOne ((textM r).2) (sT S id 4 (s1 :: rest) 9 (textM r).2 (vM S (c.map encX ++ [encX (textM r).1])) (c.length + 1) ++ L ++ [.cells z5]) ⟨by rw [List.append_assoc]; exact sT_get rfl, by rw [List.append_assoc]; exact sT_get rfl⟩ (get_sl (get_sl (sT_rd hid))) (by omega)).mono ?_))
 rintro _ _ ⟨rfl, rfl⟩
 rw [set_sl (get_sl (sT_rd hid)), set_sl (sT_rd hid), sT_set hid]
 obtain ⟨⟨n0, m0, s0, c0, w0⟩, hq⟩ : ∃ q, q = (M (textM r).2).1 := ⟨_, rfl⟩
 rw [← hq]
 refine qO rfl <| op_store_own (S1 := sT S id 4 (s1 :: rest) 9 (M (textM r).2).2 (vM S (c.map encX ++ [encX (textM r).1])) (c.length + 1) ++ L) (by simp [sT_len]) rfl rfl rfl rfl sz30 rfl rfl (Nat.le_of_ble_eq_true rfl) rfl ?_
 refine qN <| mwp_ret ?_
 have e1 : c.map encX ++ [encX (textM r).1] = (c ++ [(textM r).1]).map encX := by rw [List.map_append]; rfl
 have e2 : c.length + 1 = (c ++ [(textM r).1]).length := by simp
 exact ret_cellS (y := encV (.mk n0 m0 s0 c0 w0)) (by simp [sT_len]) (.inr rfl) Tryz.results48 rfl rfl ta30 rfl (.refl _) (cl_encV _ _) (by
   have h7 := hcls (M (textM r).2).2 (c ++ [(textM r).1]) L hcl
   rwa [← e1, ← e2] at h7) ⟨by rw [entM, hq], by rw [entM, ← e1, ← e2]⟩
theorem sib_one (s1 : Sch) (rest : List Sch) {S : MS} {id : Nat} {r0 : RdS} (hid : S[id]? = some (rdO r0)) {M : RdS → Val × RdS} (hOne : ReadsIn (fun S' => S'[S.length + 0]? = some (.cells [.ref id 0]) ∧ S'[S.length + 1]? = some (.cells [.int .i64 8, .lst none 2 (encSs (s1 :: rest))])) 43 ([] ++ [] ++ [.ref (S.length + 0) 0, .ref (S.length + 1) 0]) id encV M)
  (hcls : ∀ r' (c' : List (List Tk)) (L : MS) {r c}, ClS (sT S id 8 (s1 :: rest) 70 r (vS S ((c : List (List Tk)).map encC)) c.length ++ L) → ClS (sT S id 8 (s1 :: rest) 70 r' (vS S (c'.map encC)) c'.length ++ L)) (r : RdS) (c : List (List Tk)) (L : MS) (hlen : r.1.length ≤ 1000000) (hc40 : c.length ≤ 1000) :
  MCalls Tryz.prog 51 ([] ++ [] ++ [.ref (S.length + 3) 0, .ref (S.length + 0) 0, .ref (S.length + 4) 0]) (sT S id 8 (s1 :: rest) 70 r (vS S (c.map encC)) c.length ++ L) fun v σ' => v = encV (sibM M r c).1 ∧ σ' = sT S id 8 (s1 :: rest) 70 (sibM M r c).2.1 (vS S ((sibM M r c).2.2.map encC)) (sibM M r c).2.2.length ++ L := by
 have hml := clockM_len r
 refine mcalls_body Tryz.func51 rfl Tryz.ntmps51 (Nat.le_of_ble_eq_true rfl) ?_
 refine mwp_facts fun _ hcl => ?_
 rw [List.append_nil] at hcl
 refine mwp_seq <| qR rfl <| qO rfl <| op_alloc' rfl zm30 rfl rfl <| qN <| mwp_seq ?_
 refine mwp_draw [3, 5, 7] [_, (sT S id 8 (s1 :: rest) 70 (clockM r).2 (vS S (c.map encC)) c.length ++ L) ++ [.cells z5], (sT S id 8 (s1 :: rest) 70 (clockM r).2 (vS S (c.map encC)) (c.length + 1) ++ L) ++ [.cells z5], (sT S id 8 (s1 :: rest) 70 (clockM r).2 (vS S (c.map encC ++ [encC (clockM r).1])) (c.length + 1) ++ L) ++ [.cells z5]] mo (by decide) rfl rfl rfl rfl ?_
 refine dOps_op rfl rfl (.cons (op_fieldAddr_ref rfl rfl fo30_3 ⟨rfl, rfl⟩) (.cons (op_fieldAddr_ref rfl rfl fo30_3 ⟨rfl, rfl⟩) (.cons (op_fieldAddr_ref rfl rfl fo30_3 ⟨rfl, rfl⟩) (.nil)))) <| dOps_op rfl rfl (.cons (op_load_ref rfl rfl (by rw [List.append_assoc]; exact sT_get rfl) ta27 rfl ⟨rfl, rfl⟩) (.cons (op_load_ref rfl rfl (by rw [List.append_assoc]; exact sT_get rfl) ta27 rfl ⟨rfl, rfl⟩) (.nil))) ?_
 refine dO rfl rfl rfl (op_load_ref rfl rfl (by rw [List.append_assoc]; exact sT_get rfl) ta62 rfl ⟨rfl, rfl⟩) ?_
 refine dOps_eff rfl rfl rfl rfl (op_call rfl rfl rfl co50 (((clock_reads id).sl (S := sT S id 8 (s1 :: rest) 70 r (vS S (c.map encC)) c.length ++ L) (L := [.cells z5]) (get_sl (sT_rd hid)) hlen).mono fun v σ' hv => ⟨hv.1, hv.2.trans (by rw [set_sl (sT_rd hid), sT_set hid])⟩)) ?_
 refine dO rfl rfl rfl (op_buildSlice rfl Tryz.underlying27 el70 rfl rfl (by decide) (by decide) rfl rfl ⟨rfl, rfl⟩) ?_
 refine dOps_eff rfl rfl rfl rfl (op_append rfl Tryz.underlying27 el70 rfl rfl (by rw [List.append_assoc]; exact sT_get rfl) (by simp) (by simp; omega) (by simp; omega) ⟨rfl, by rw [List.append_assoc, sT_row, List.append_assoc]; rfl⟩) ?_
 refine dO rfl rfl rfl (op_fieldAddr_ref rfl rfl fo30_3 ⟨rfl, rfl⟩) <| dOps_eff rfl rfl rfl rfl (op_store rfl rfl rfl (by rw [List.append_assoc]; exact sT_get rfl) sz27 rfl rfl (Nat.le_of_ble_eq_true rfl) ⟨rfl, by rw [List.append_assoc, sT_v, List.append_assoc]; rfl⟩) ?_
 refine dOps_nil <| mwp_seq <| qR rfl <| qO rfl <| op_load_ref rfl rfl (by rw [List.append_assoc]; exact sT_get rfl) ta83 rfl ?_
 refine wOps_op rfl (op_call rfl rfl rfl co43 ((hOne ((clockM r).2) (sT S id 8 (s1 :: rest) 70 (clockM r).2 (vS S (c.map encC ++ [encC (clockM r).1])) (c.length + 1) ++ L ++ [.cells z5]) ⟨by rw [List.append_assoc]; exact sT_get rfl, by rw [List.append_assoc]; exact sT_get rfl⟩ (get_sl (get_sl (sT_rd hid))) (by omega)).mono ?_))
 rintro _ _ ⟨rfl, rfl⟩
 rw [set_sl (get_sl (sT_rd hid)), set_sl (sT_rd hid), sT_set hid]
 obtain ⟨⟨n0, m0, s0, c0, w0⟩, hq⟩ : ∃ q, q = (M (clockM r).2).1 := ⟨_, rfl⟩
 rw [← hq]
 refine qO rfl <| op_store_own (S1 := sT S id 8 (s1 :: rest) 70 (M (clockM r).2).2 (vS S (c.map encC ++ [encC (clockM r).1])) (c.length + 1) ++ L) (by simp [sT_len]) rfl rfl rfl rfl sz30 rfl rfl (Nat.le_of_ble_eq_true rfl) rfl ?_
 refine qN <| mwp_ret ?_
 have e1 : c.map encC ++ [encC (clockM r).1] = (c ++ [(clockM r).1]).map encC := by rw [List.map_append]; rfl
 have e2 : c.length + 1 = (c ++ [(clockM r).1]).length := by simp
 exact ret_cellS (y := encV (.mk n0 m0 s0 c0 w0)) (by simp [sT_len]) (.inr rfl) Tryz.results51 rfl rfl ta30 rfl (.refl _) (cl_encV _ _) (by
   have h7 := hcls (M (clockM r).2).2 (c ++ [(clockM r).1]) L hcl
   rwa [← e1, ← e2] at h7) ⟨by rw [sibM, hq], by rw [sibM, ← e1, ← e2]⟩
theorem sT_cls {S : MS} {id ty : Nat} {k : Int} {ss : List Sch} {r r' r0 : RdS} {v v' : List MV} {n n' : Nat} {L : MS} (hid : S[id]? = some (rdO r0)) (h : ClS (sT S id k ss ty r v n ++ L)) (hv : ∀ m, S.length + 5 < m → ∀ x ∈ v', Cl m x) : ClS (sT S id k ss ty r' v' n' ++ L) := by
 have e : sT S id k ss ty r' v' n' ++ L = (((sT S id k ss ty r v n ++ L).set id (rdO r')).set (S.length + 3) (.cells v')).set (S.length + 5) (.row ty 1 n') := by
  rw [set_sl (sT_rd hid), sT_set hid, sT_v, sT_row]
 rw [e]
 refine ClS.set (ClS.set (ClS.set h (rd_cl _ _)) ?_) trivial
 intro x hx
 exact hv _ (by rw [List.length_set, List.length_append, sT_len]; omega) x hx
theorem cl_vM {S : MS} {m : Nat} (hm : S.length + 5 < m) (c : List Bs) : ∀ x ∈ vM S (c.map encX), Cl m x := fun x hx => by
 simp only [List.mem_cons, List.not_mem_nil, or_false] at hx
 rcases hx with rfl | rfl | rfl | rfl | rfl
 ·exact .int _ _
 ·exact .int _ _
 ·exact cl_lstT hm (fun e => cl_encX _ e) (fun e => .inr rfl)
 ·exact .lst0
 ·exact .lst0
theorem cl_vS {S : MS} {m : Nat} (hm : S.length + 5 < m) (c : List (List Tk)) : ∀ x ∈ vS S (c.map encC), Cl m x := fun x hx => by
 simp only [List.mem_cons, List.not_mem_nil, or_false] at hx
 rcases hx with rfl | rfl | rfl | rfl | rfl
 ·exact .int _ _
 ·exact .int _ _
 ·exact .lst0
 ·exact cl_lstT hm (fun e => cl_encC _ e) (fun e => .inr rfl)
 ·exact .lst0
end Go.Proofs.YthkikhggmbiffaaGreat
end
section
set_option linter.unusedVariables false
set_option linter.unusedSimpArgs false
set_option maxRecDepth 20000
set_option maxHeartbeats 400000
namespace Go.Proofs.YthkikhggmbiffaaGreat
open Go Go.MV Go.RowKit
theorem rowGoC_len {α γ : Type} {f : RdS → γ → α × RdS × γ} (hf : ∀ r c, (f r c).2.1.1.length ≤ r.1.length) : ∀ k acc r c, (rowGoC f k acc r c).2.1.1.length ≤ r.1.length
 | 0, acc, r, c => Nat.le_refl _
 | k + 1, acc, r, c => by
  rw [rowGoC]
  split
  ·exact Nat.le_refl _
  ·exact Nat.le_trans (rowGoC_len hf k _ _ _) (hf r c)
theorem rowC_len {α γ : Type} {f : RdS → γ → α × RdS × γ} (hf : ∀ r c, (f r c).2.1.1.length ≤ r.1.length) (r : RdS) (c : γ) : (rowC f r c).2.1.1.length ≤ r.1.length := Nat.le_trans (rowGoC_len hf _ _ _ _) (rowStart_len r)
theorem lastM_len (r : RdS) : (lastM r).2.1.length ≤ r.1.length := by
 have h1 := (numM_len r).1
 have h2 := (numM_len (numM r).2).1
 have h3 := (numM_len (numM (numM r).2).2).1
 have h4 := textM_len (numM (numM (numM r).2).2).2
 unfold lastM
 split
 ·exact h1
 ·split
  ·exact Nat.le_trans h4 (Nat.le_trans h3 (Nat.le_trans h2 h1))
  ·exact h1
theorem entM_len {M : RdS → Val × RdS} (hM : ∀ r, (M r).2.1.length ≤ r.1.length) (r : RdS) (c : List Bs) : (entM M r c).2.1.1.length ≤ r.1.length := Nat.le_trans (hM _) (textM_len r)
theorem sibM_len {M : RdS → Val × RdS} (hM : ∀ r, (M r).2.1.length ≤ r.1.length) (r : RdS) (c : List (List Tk)) : (sibM M r c).2.1.1.length ≤ r.1.length := Nat.le_trans (hM _) (clockM_len r)
theorem kindM_len {k : Int} {fs : List (RdS → Val × RdS)} (hfs : ∀ f ∈ fs, ∀ r, (f r).2.1.length ≤ r.1.length) (r : RdS) : (kindM k fs r).2.1.length ≤ r.1.length := by
 have h1 : ∀ r, ((fs.headD lastM) r).2.1.length ≤ r.1.length := by
  cases fs with
  | nil => exact lastM_len
  | cons f l => exact hfs f (.head _)
 have h2 : ∀ r, ((fs.tail.headD lastM) r).2.1.length ≤ r.1.length := by
  cases fs with
  | nil => exact lastM_len
  | cons f l =>
   cases l with
   | nil => exact lastM_len
   | cons g l => exact hfs g (.tail _ (.head _))
 unfold kindM
 split
 ·exact flatM_len k r
 ·split
  ·exact rowC_len (entM_len h1) r []
  ·split
   ·exact Nat.le_trans (h2 _) (h1 r)
   ·split
    ·exact lastM_len r
    ·split
     ·exact clockM_len r
     ·exact rowC_len (sibM_len h1) r []
mutual
theorem valueM_len : ∀ (s : Sch) (r : RdS), (valueM s r).2.1.length ≤ r.1.length
 | .mk k ins, r => by
  rw [valueM]
  exact kindM_len (valueMs_len ins) r
theorem valueMs_len : ∀ (l : List Sch), ∀ f ∈ valueMs l, ∀ r : RdS, (f r).2.1.length ≤ r.1.length
 | [], f, h => by simp [valueMs] at h
 | s :: l, f, h => by
  rw [valueMs] at h
  rcases List.mem_cons.1 h with rfl | h
  ·exact valueM_len s
  ·exact valueMs_len l f h
end
theorem value6 (ins : List Sch) (id : Nat) : Reads 25 [.ref id 0, encS (.mk 6 ins)] id encV (valueM (.mk 6 ins)) := by
 intro r S h hlen
 refine mcalls_body Tryz.func25 rfl Tryz.ntmps25 (Nat.le_of_ble_eq_true rfl) ?_
 refine mwp_facts fun _ hcl => ?_
 have hcl0 := hcl
 rw [List.append_nil] at hcl
 have hidl := (List.getElem?_eq_some_iff.1 h).1
 refine mwp_seq <| qR rfl <| qB rfl rfl rfl rfl rfl <| qB rfl rfl rfl rfl rfl <| qO rfl <| op_alloc' rfl zm30 rfl rfl <| qN <| mwp_seq <| qR rfl <| qO rfl <| op_alloc' rfl zm30 rfl rfl <| qN <| mwp_seq <| qR rfl <| qO rfl <| op_makeFunc rfl rfl rfl <| qO rfl <| op_alloc' rfl zm83 rfl rfl <| qO rfl <| op_store_own (by simp) rfl rfl rfl rfl sz83 rfl rfl (Nat.le_of_ble_eq_true rfl) rfl ?_
 refine qN <| mwp_seq <| mwp_seq <| qR rfl <| qF rfl rfl rfl fo24_0 <| qO rfl <| op_load_own (by simp) rfl rfl rfl ta3 rfl ?_
 refine qN <| mwp_block <| mwp_seq <| mwp_seq <| qR rfl <| qC rfl rfl rfl rfl rfl <| qA rfl rfl rfl <| qN <| mwp_cond_f rfl (rfl) <| qR rfl <| qC rfl rfl rfl rfl rfl <| qA rfl rfl rfl <| qN <| mwp_cond_f rfl (rfl) <| mwp_seq <| qR rfl <| qC rfl rfl rfl rfl rfl <| qA rfl rfl rfl <| qN <| mwp_cond_f rfl (rfl) <| mwp_seq <| qR rfl <| qC rfl rfl rfl rfl rfl ?_
 refine qA rfl rfl rfl <| qN <| mwp_cond_f rfl (rfl) <| mwp_seq <| qR rfl <| qC rfl rfl rfl rfl rfl <| qA rfl rfl rfl <| qN <| mwp_cond_f rfl (rfl) <| mwp_seq <| qR rfl <| qC rfl rfl rfl rfl rfl <| qA rfl rfl rfl <| qN <| mwp_cond_t rfl (rfl) <| mwp_seq <| qR rfl <| qO rfl <| op_load_own (by simp) rfl rfl rfl ta62 rfl ?_
 refine wOps_op rfl (op_call rfl rfl rfl co49 (((last_reads id).sl h hlen).mono ?_))
 rintro _ _ ⟨rfl, rfl⟩
 obtain ⟨⟨n0, m0, s0, c0, w0⟩, hq⟩ : ∃ q, q = (lastM r).1 := ⟨_, rfl⟩
 rw [← hq]
 refine qO rfl <| op_store_own (by simp) rfl rfl rfl rfl sz30 rfl rfl (Nat.le_of_ble_eq_true rfl) rfl ?_
 refine qN <| mwp_ret ?_
 exact ret_cellS (y := encV (.mk n0 m0 s0 c0 w0)) (by simp) (.inr rfl) Tryz.results25 rfl rfl ta30 rfl (.refl _) (cl_encV _ _) (hcl.set (rd_cl _ _)) ⟨by rw [valueM]; first | exact congrArg encV hq | rfl, by rw [valueM]; first | exact congrArg encV hq | rfl⟩
theorem value7 (ins : List Sch) (id : Nat) : Reads 25 [.ref id 0, encS (.mk 7 ins)] id encV (valueM (.mk 7 ins)) := by
 intro r S h hlen
 refine mcalls_body Tryz.func25 rfl Tryz.ntmps25 (Nat.le_of_ble_eq_true rfl) ?_
 refine mwp_facts fun _ hcl => ?_
 have hcl0 := hcl
 rw [List.append_nil] at hcl
 have hidl := (List.getElem?_eq_some_iff.1 h).1
 refine mwp_seq <| qR rfl <| qB rfl rfl rfl rfl rfl <| qB rfl rfl rfl rfl rfl <| qO rfl <| op_alloc' rfl zm30 rfl rfl <| qN <| mwp_seq <| qR rfl <| qO rfl <| op_alloc' rfl zm30 rfl rfl <| qN <| mwp_seq <| qR rfl <| qO rfl <| op_makeFunc rfl rfl rfl <| qO rfl <| op_alloc' rfl zm83 rfl rfl <| qO rfl <| op_store_own (by simp) rfl rfl rfl rfl sz83 rfl rfl (Nat.le_of_ble_eq_true rfl) rfl ?_
 refine qN <| mwp_seq <| mwp_seq <| qR rfl <| qF rfl rfl rfl fo24_0 <| qO rfl <| op_load_own (by simp) rfl rfl rfl ta3 rfl ?_
 refine qN <| mwp_block <| mwp_seq <| mwp_seq <| qR rfl <| qC rfl rfl rfl rfl rfl <| qA rfl rfl rfl <| qN <| mwp_cond_f rfl (rfl) <| qR rfl <| qC rfl rfl rfl rfl rfl <| qA rfl rfl rfl <| qN <| mwp_cond_f rfl (rfl) <| mwp_seq <| qR rfl <| qC rfl rfl rfl rfl rfl <| qA rfl rfl rfl <| qN <| mwp_cond_f rfl (rfl) <| mwp_seq <| qR rfl <| qC rfl rfl rfl rfl rfl ?_
 refine qA rfl rfl rfl <| qN <| mwp_cond_f rfl (rfl) <| mwp_seq <| qR rfl <| qC rfl rfl rfl rfl rfl <| qA rfl rfl rfl <| qN <| mwp_cond_f rfl (rfl) <| mwp_seq <| qR rfl <| qC rfl rfl rfl rfl rfl <| qA rfl rfl rfl <| qN <| mwp_cond_f rfl (rfl) <| mwp_seq <| qR rfl <| qC rfl rfl rfl rfl rfl <| qA rfl rfl rfl <| qN <| mwp_cond_t rfl (rfl) <| mwp_seq <| qR rfl ?_
 refine qO rfl <| op_load_own (by simp) rfl rfl rfl ta62 rfl ?_
 refine wOps_op rfl (op_call rfl rfl rfl co50 (((clock_reads id).sl h hlen).mono ?_))
 rintro _ _ ⟨rfl, rfl⟩
 refine qA rfl rfl rfl <| qN <| mwp_seq <| qR rfl <| qM rfl rfl rfl <| qE rfl rfl Tryz.underlying70 rfl <| qC rfl rfl rfl rfl rfl <| qN ?_
 refine mwp_cond_split rfl (fun h56 => ?_) (fun h56 => ?_)
 ·
  have h0 : ¬ (clockM r).1.length = 0 := by simp at h56; omega
  have hE : valueM (.mk 7 ins) r = (.mk 0 0 [] [(clockM r).1] [], (clockM r).2) := by rw [valueM]; simp [kindM, oneClockM, h0]
  refine qR rfl <| qM rfl rfl rfl <| qO rfl <| op_buildSlice rfl Tryz.underlying27 el70 rfl rfl (by decide) (by decide) rfl rfl ?_
  refine qF rfl rfl rfl fo30_3 <| qO rfl <| op_store_own (by simp) rfl rfl rfl rfl sz27 rfl rfl (Nat.le_of_ble_eq_true rfl) rfl ?_
  refine qN <| mwp_seq <| qR rfl <| qO rfl <| op_load_own (by simp) rfl rfl rfl ta30 rfl ?_
  refine qO rfl <| op_store_own (by simp) rfl rfl rfl rfl sz30 rfl rfl (Nat.le_of_ble_eq_true rfl) rfl ?_
  refine qN <| mwp_ret ?_
  first | (exact ret_cellS (y := encV (.mk 0 0 [] [(clockM r).1] [])) (by simp) (.inr rfl) Tryz.results25 rfl rfl ta30 rfl (.agg (.cons (.refl _) (.cons (.refl _) (.cons (.nil 1) (.cons (.refl _) (.cons (.nil 5) .nil)))))) (cl_encV _ _) (hcl.set (rd_cl _ _)) ⟨by rw [hE]; try rfl, by rw [hE]; try rfl⟩) | (exact ret_cellS (y := encV (noV)) (by simp) (.inr rfl) Tryz.results25 rfl rfl ta30 rfl (.agg (.cons (.refl _) (.cons (.refl _) (.cons (.nil 1) (.cons (.nil 1) (.cons (.nil 5) .nil)))))) (cl_encV _ _) (hcl.set (rd_cl _ _)) ⟨by rw [hE]; try rfl, by rw [hE]; try rfl⟩)
 ·
  have h0 : (clockM r).1.length = 0 := by simp at h56; simp [h56]
  have hE : valueM (.mk 7 ins) r = (.mk 0 0 [] [] [], (clockM r).2) := by rw [valueM]; simp [kindM, oneClockM, h0]
  refine mwp_skip <| mwp_seq <| qR rfl <| qO rfl <| op_load_own (by simp) rfl rfl rfl ta30 rfl ?_
  refine qO rfl <| op_store_own (by simp) rfl rfl rfl rfl sz30 rfl rfl (Nat.le_of_ble_eq_true rfl) rfl ?_
  refine qN <| mwp_ret ?_
  first | (exact ret_cellS (y := encV (.mk 0 0 [] [(clockM r).1] [])) (by simp) (.inr rfl) Tryz.results25 rfl rfl ta30 rfl (.agg (.cons (.refl _) (.cons (.refl _) (.cons (.nil 1) (.cons (.refl _) (.cons (.nil 5) .nil)))))) (cl_encV _ _) (hcl.set (rd_cl _ _)) ⟨by rw [hE]; try rfl, by rw [hE]; try rfl⟩) | (exact ret_cellS (y := encV (noV)) (by simp) (.inr rfl) Tryz.results25 rfl rfl ta30 rfl (.agg (.cons (.refl _) (.cons (.refl _) (.cons (.nil 1) (.cons (.nil 1) (.cons (.nil 5) .nil)))))) (cl_encV _ _) (hcl.set (rd_cl _ _)) ⟨by rw [hE]; try rfl, by rw [hE]; try rfl⟩)
theorem value5 (d : Nat) (ih : ∀ s, isF d s = true → ∀ id, Reads 25 [.ref id 0, encS s] id encV (valueM s)) (k1 : Int) (i1 : List Sch) (k2 : Int) (i2 : List Sch) (hd : True ∧ ∀ x ∈ [Sch.mk k1 i1, Sch.mk k2 i2], isF d x = true) (id : Nat) : Reads 25 [.ref id 0, encS (.mk 5 [.mk k1 i1, .mk k2 i2])] id encV (valueM (.mk 5 [.mk k1 i1, .mk k2 i2])) := by
 intro r S h hlen
 refine mcalls_body Tryz.func25 rfl Tryz.ntmps25 (Nat.le_of_ble_eq_true rfl) ?_
 refine mwp_facts fun _ hcl => ?_
 have hcl0 := hcl
 rw [List.append_nil] at hcl
 have hidl := (List.getElem?_eq_some_iff.1 h).1
 obtain ⟨⟨⟨n1, m1, s1, c1, w1⟩, r1⟩, hq1⟩ : ∃ q, valueM (.mk k1 i1) r = q := ⟨_, rfl⟩
 obtain ⟨⟨⟨n2, m2, s2, c2, w2⟩, r2⟩, hq2⟩ : ∃ q, valueM (.mk k2 i2) r1 = q := ⟨_, rfl⟩
 have hr1 := valueM_len (.mk k1 i1) r
 simp only [hq1] at hr1
 have hone := one_reads 5 k1 i1 [.mk k2 i2] (valueM (.mk k1 i1)) id (S.length + 0) (S.length + 1) (ih (.mk k1 i1) (hd.2 _ (by simp)) id) r (S ++ [.cells [.ref id 0], .cells [.int .i64 5, .lst none 2 (encSs [.mk k1 i1, .mk k2 i2])], .cells z5, .cells z5, .cells [fOne S]]) ⟨by rw [own_getS rfl]; rfl, by rw [own_getS rfl]; rfl⟩ (get_sl h) hlen
 have htwo := (ih (.mk k2 i2) (hd.2 _ (by simp)) id).sl (r := r1) (S := S.set id (rdO r1)) (L := [.cells [.ref id 0], .cells [.int .i64 5, .lst none 2 (encSs [.mk k1 i1, .mk k2 i2])], .cells z5, .cells z5, .cells [fOne S]]) (get_set h) (by omega)
 simp only [hq1] at hone
 simp only [hq2] at htwo
 rw [set_sl h] at hone
 rw [set_set] at htwo
 have hE : valueM (.mk 5 [.mk k1 i1, .mk k2 i2]) r = (.mk 0 0 [] [] [.mk n1 m1 s1 c1 w1, .mk n2 m2 s2 c2 w2], r2) := by
  rw [valueM, valueMs, valueMs, valueMs]
  simp [kindM, pairM, hq1, hq2]
 refine mwp_seq <| qR rfl <| qB rfl rfl rfl rfl rfl <| qB rfl rfl rfl rfl rfl <| qO rfl <| op_alloc' rfl zm30 rfl rfl <| qN <| mwp_seq <| qR rfl <| qO rfl <| op_alloc' rfl zm30 rfl rfl <| qN <| mwp_seq <| qR rfl <| qO rfl <| op_makeFunc rfl rfl rfl <| qO rfl <| op_alloc' rfl zm83 rfl rfl <| qO rfl <| op_store_own (by simp) rfl rfl rfl rfl sz83 rfl rfl (Nat.le_of_ble_eq_true rfl) rfl ?_
 refine qN <| mwp_seq <| mwp_seq <| qR rfl <| qF rfl rfl rfl fo24_0 <| qO rfl <| op_load_own (by simp) rfl rfl rfl ta3 rfl ?_
 refine qN <| mwp_block <| mwp_seq <| mwp_seq <| qR rfl <| qC rfl rfl rfl rfl rfl <| qA rfl rfl rfl <| qN <| mwp_cond_f rfl (rfl) <| qR rfl <| qC rfl rfl rfl rfl rfl <| qA rfl rfl rfl <| qN <| mwp_cond_f rfl (rfl) <| mwp_seq <| qR rfl <| qC rfl rfl rfl rfl rfl <| qA rfl rfl rfl <| qN <| mwp_cond_f rfl (rfl) <| mwp_seq <| qR rfl <| qC rfl rfl rfl rfl rfl ?_
 refine qA rfl rfl rfl <| qN <| mwp_cond_f rfl (rfl) <| mwp_seq <| qR rfl <| qC rfl rfl rfl rfl rfl <| qA rfl rfl rfl <| qN <| mwp_cond_t rfl (rfl) ?_
 refine mwp_draw [1, 7, 10] [_, S.set id (rdO r1) ++ [.cells [.ref id 0], .cells [.int .i64 5, .lst none 2 (encSs [.mk k1 i1, .mk k2 i2])], .cells z5, .cells z5, .cells [fOne S]], S.set id (rdO r2) ++ [.cells [.ref id 0], .cells [.int .i64 5, .lst none 2 (encSs [.mk k1 i1, .mk k2 i2])], .cells z5, .cells z5, .cells [fOne S]], S.set id (rdO r2) ++ [.cells [.ref id 0], .cells [.int .i64 5, .lst none 2 (encSs [.mk k1 i1, .mk k2 i2])], .cells z5, .cells [.int .u64 0, .int .u64 0, .lst0, .lst0, .lst none 5 [encV (.mk n1 m1 s1 c1 w1), encV (.mk n2 m2 s2 c2 w2)]], .cells [fOne S]]] mo (by decide) rfl rfl rfl rfl ?_
 refine dOps_op rfl rfl (.cons (op_load_own (by simp) rfl rfl rfl ta83 rfl ⟨rfl, rfl⟩) .nil) ?_
 refine dOps_eff rfl rfl rfl rfl (op_call rfl rfl rfl co43 (hone)) <| dOps_op rfl rfl (.cons (op_load_own (by simp) rfl rfl rfl ta62 rfl ⟨rfl, rfl⟩) (.cons (op_load_own (by simp) rfl rfl rfl ta62 rfl ⟨rfl, rfl⟩) (.nil))) ?_
 refine dOps_op rfl rfl (.cons (op_fieldAddr_ref rfl rfl fo24_1 ⟨rfl, rfl⟩) (.cons (op_fieldAddr_ref rfl rfl fo24_1 ⟨rfl, rfl⟩) (.cons (op_fieldAddr_ref rfl rfl fo24_1 ⟨rfl, rfl⟩) (.nil)))) <| dOps_op rfl rfl (.cons (op_load_own (by simp) rfl rfl rfl ta22 rfl ⟨rfl, rfl⟩) (.cons (op_load_own (by simp) rfl rfl rfl ta22 rfl ⟨rfl, rfl⟩) (.cons (op_load_own (by simp) rfl rfl rfl ta22 rfl ⟨rfl, rfl⟩) (.nil)))) ?_
 refine dOps_op rfl rfl (.cons (op_indexAddr rfl Tryz.underlying22 sz24 (by decide) rfl rfl rfl (show _ = some (encS (.mk k2 i2)) from rfl) ⟨rfl, rfl⟩) (.cons (op_indexAddr rfl Tryz.underlying22 sz24 (by decide) rfl rfl rfl (show _ = some (encS (.mk k2 i2)) from rfl) ⟨rfl, rfl⟩) (.cons (op_indexAddr rfl Tryz.underlying22 sz24 (by decide) rfl rfl rfl (show _ = some (encS (.mk k2 i2)) from rfl) ⟨rfl, rfl⟩) (.nil)))) ?_
 refine dOps_op rfl rfl (.cons (op_load_sptr rfl rfl ta24 rfl ⟨rfl, rfl⟩) (.cons (op_load_sptr rfl rfl ta24 rfl ⟨rfl, rfl⟩) (.nil))) <| dOps_eff rfl rfl rfl rfl (op_call rfl rfl rfl co25 (htwo)) <| dO rfl rfl rfl (op_buildSlice rfl Tryz.underlying28 el30 rfl rfl (by decide) (by decide) rfl rfl ⟨rfl, rfl⟩) ?_
 refine dO rfl rfl rfl (op_fieldAddr_ref rfl rfl fo30_4 ⟨rfl, rfl⟩) <| dOps_eff rfl rfl rfl rfl (op_store_own (by simp) rfl rfl rfl rfl sz28 rfl rfl (Nat.le_of_ble_eq_true rfl) rfl ⟨rfl, rfl⟩) ?_
 refine dOps_nil <| mwp_seq <| qR rfl <| qO rfl <| op_load_own (by simp) rfl rfl rfl ta30 rfl ?_
 refine qO rfl <| op_store_own (by simp) rfl rfl rfl rfl sz30 rfl rfl (Nat.le_of_ble_eq_true rfl) rfl ?_
 refine qN <| mwp_ret ?_
 exact ret_cellS (y := encV (.mk 0 0 [] [] [.mk n1 m1 s1 c1 w1, .mk n2 m2 s2 c2 w2])) (by simp) (.inr rfl) Tryz.results25 rfl rfl ta30 rfl (.agg (.cons (.refl _) (.cons (.refl _) (.cons (.nil 1) (.cons (.nil 1) (.cons (.refl _) .nil)))))) (cl_encV _ _) (hcl.set (rd_cl _ _)) ⟨by rw [hE]; try rfl, by rw [hE]; try rfl⟩
end Go.Proofs.YthkikhggmbiffaaGreat
end
