/-
  Texts on which the proof of OrderTells leans: part 4.
-/
import Derived.Test.YtnfcnpdpfgcchaaGreatDoorOrderTellsC
set_option linter.unusedVariables false
set_option linter.unusedSimpArgs false
set_option maxRecDepth 20000
set_option maxHeartbeats 8000000
namespace Go.Proofs.YtnfcnpdpfgcchaaGreatDoor
open Go Go.MV Go.RowKit
section
section
variable {κ : Type}
def ofE (f : Val → Val → Option Val) (e : Ent κ) : Option Val := match e.2.2 with | none => some e.2.1 | some w => f e.2.1 w
def goE (f : Val → Val → Option Val) : List (Ent κ) → Option (List (κ × Val))
  | [] => some []
  | e :: l => match ofE f e with | none => none | some v => (goE f l).map ((e.1, v) :: ·)
theorem goE_append (f : Val → Val → Option Val) : ∀ a b : List (Ent κ), goE f (a ++ b) = (goE f a).bind fun x => (goE f b).map (x ++ ·)
  | [], b => by simp [goE]
  | e :: a, b => by
    rw [List.cons_append, goE, goE, goE_append f a b]
    cases ofE f e with
    | none => rfl
    | some v =>
      cases goE f a with
      | none => rfl
      | some x => cases goE f b <;> simp
theorem goE_len {f : Val → Val → Option Val} : ∀ {a : List (Ent κ)} {x}, goE f a = some x → x.length = a.length
  | [], x, h => by simp [goE] at h; subst h; rfl
  | e :: a, x, h => by
    rw [goE] at h
    cases ho : ofE f e with
    | none => rw [ho] at h; cases h
    | some v =>
      rw [ho] at h
      cases hg : goE f a with
      | none => rw [hg] at h; cases h
      | some y => rw [hg] at h; simp at h; subst h; simp [goE_len hg]
theorem mergeE_mem (cmp : κ → κ → Int) : ∀ (a b : List (REnt κ)) (e : Ent κ), e ∈ mergeE cmp a b → ((e.1, e.2.1) ∈ a ∨ (e.1, e.2.1) ∈ b) ∧ ∀ y, e.2.2 = some y → (e.1, e.2.1) ∈ a ∧ ∃ k, (k, y) ∈ b := by
  intro a b
  induction a, b using mergeE.induct cmp with
  | case1 => intro e h; simp [mergeE] at h
  | case2 x a ih =>
    intro e h
    rw [mergeE, List.mem_cons] at h
    rcases h with rfl | h
    · exact ⟨.inl (.head _), fun y h => by cases h⟩
    · obtain ⟨h1, h2⟩ := ih e h
      refine ⟨h1.imp (.tail _) id, fun y hy => ?_⟩
      obtain ⟨p, k, q⟩ := h2 y hy
      exact ⟨.tail _ p, k, q⟩
  | case3 y b ih =>
    intro e h
    rw [mergeE, List.mem_cons] at h
    rcases h with rfl | h
    · exact ⟨.inr (.head _), fun y h => by cases h⟩
    · obtain ⟨h1, h2⟩ := ih e h
      refine ⟨h1.imp id (.tail _), fun y hy => ?_⟩
      obtain ⟨p, k, q⟩ := h2 y hy
      exact ⟨p, k, .tail _ q⟩
  | case4 x a y b hlt ih =>
    intro e h
    rw [mergeE, if_pos hlt, List.mem_cons] at h
    rcases h with rfl | h
    · exact ⟨.inl (.head _), fun y h => by cases h⟩
    · obtain ⟨h1, h2⟩ := ih e h
      refine ⟨h1.imp (.tail _) id, fun y hy => ?_⟩
      obtain ⟨p, k, q⟩ := h2 y hy
      exact ⟨.tail _ p, k, q⟩
  | case5 x a y b hlt hgt ih =>
    intro e h
    rw [mergeE, if_neg hlt, if_pos hgt, List.mem_cons] at h
    rcases h with rfl | h
    · exact ⟨.inr (.head _), fun y h => by cases h⟩
    · obtain ⟨h1, h2⟩ := ih e h
      refine ⟨h1.imp id (.tail _), fun y hy => ?_⟩
      obtain ⟨p, k, q⟩ := h2 y hy
      exact ⟨p, k, .tail _ q⟩
  | case6 x a y b hlt hgt ih =>
    intro e h
    rw [mergeE, if_neg hlt, if_neg hgt, List.mem_cons] at h
    rcases h with rfl | h
    · exact ⟨.inl (.head _), fun z h => by cases h; exact ⟨.head _, y.1, .head _⟩⟩
    · obtain ⟨h1, h2⟩ := ih e h
      refine ⟨h1.imp (.tail _) (.tail _), fun y hy => ?_⟩
      obtain ⟨p, k, q⟩ := h2 y hy
      exact ⟨.tail _ p, k, .tail _ q⟩
end
def seenE (l : List (Ent (List Tk))) (e : Ent (List Tk)) : Bool := l.any fun o => decide (cmpF e.1 o.1 = -1)
def entC (v : Val) : List (REnt (List Tk)) := v.cv.zip v.vv
def entX (v : Val) : List (REnt Bs) := v.sv.zip v.vv
def mergedC (a b : Val) : List (Ent (List Tk)) := mergeE byTicksF (entC a) (entC b)
def mergedX (a b : Val) : List (Ent Bs) := mergeE cmpX (entX a) (entX b)
def causesF (f : Val → Val → Option Val) (a b : Val) : Option Val := (goE f ((mergedC a b).filter fun e => !seenE (mergedC a b) e)).map fun l => .mk 0 0 [] (l.map (·.1)) (l.map (·.2))
def mapsF (f : Val → Val → Option Val) (a b : Val) : Option Val := (goE f (mergedX a b)).map fun l => .mk 0 0 (l.map (·.1)) [] (l.map (·.2))
def goP : List (Val → Val → Option Val) → List Val → List Val → Option (List Val)
  | f :: fs, x :: a, y :: b => match f x y with | none => none | some v => (goP fs a b).map (v :: ·)
  | _, _, _ => some []
def pairF2 (fs : List (Val → Val → Option Val)) (a b : Val) : Option Val := (goP fs a.vv b.vv).map fun l => .mk 0 0 [] [] l
def laterC (a b : Val) : Int := if cmpI a.nv b.nv ≠ 0 then cmpI a.nv b.nv else if cmpI a.mv b.mv ≠ 0 then cmpI a.mv b.mv else cmpX (a.sv.headD []) (b.sv.headD [])
def laterF (a b : Val) : Val := if a.sv.length = 0 ∨ (0 < b.sv.length ∧ laterC a b < 0) then b else a
def clocksF (a b : Val) : Val := if a.cv.length = 0 then b else if b.cv.length = 0 then a else .mk 0 0 [] [joinF (a.cv.headD []) (b.cv.headD [])] []
def largeF (v : Val) : Bool := decide (40 < max (max v.sv.length v.cv.length) v.vv.length) || (match v.cv with | [c] => decide (40 < c.length) | _ => false)
def bothB (k : Int) (fs : List (Val → Val → Option Val)) (a b : Val) : Option Val :=
  if k = 1 ∨ k = 2 then some (.mk (max a.nv b.nv) 0 [] [] [])
  else if k = 3 then some (.mk 0 0 (bothX a.sv b.sv) [] [])
  else if k = 4 then mapsF (fs.headD fun _ _ => none) a b
  else if k = 5 then pairF2 fs a b
  else if k = 6 then some (laterF a b)
  else if k = 7 then some (clocksF a b)
  else causesF (fs.headD fun _ _ => none) a b
def capF (o : Option Val) : Option Val := o.bind fun v => if largeF v then none else some v
mutual
def bothF : Sch → Val → Val → Option Val
  | .mk k ins, a, b => capF (bothB k (bothL ins) a b)
def bothL : List Sch → List (Val → Val → Option Val)
  | [] => []
  | s :: l => bothF s :: bothL l
end
theorem bothF_mk (k : Int) (ins : List Sch) (a b : Val) : bothF (.mk k ins) a b = capF (bothB k (bothL ins) a b) := by rw [bothF]
theorem _root_.zK2 : type_of% @bothF_mk := @bothF_mk
theorem bothL_eq : ∀ l : List Sch, bothL l = l.map bothF
  | [] => by simp [bothL]
  | s :: l => by simp [bothL, bothL_eq l]
def encErr (n : Int) : MV := .iface 62 (.int .i64 n)
def errO : Option Val → MV
  | none => encErr 13
  | some _ => .iface0
theorem cl_errO (n : Nat) (o : Option Val) : Cl n (errO o) := by
  cases o
  · exact .iface _ _ (.int _ _)
  · exact .iface0
def encO (o : Option Val) : MV := .tup [encV (o.getD noV), errO o]
theorem encO_of (o : Option Val) : ∃ n m s c w, o.getD noV = .mk n m s c w := by
  cases o.getD noV with
  | mk n m s c w => exact ⟨n, m, s, c, w, rfl⟩
def encJ (o : Except Int Val) : MV := .tup [match o with | .error _ => encV noV | .ok v => encV v, match o with | .error n => encErr n | .ok _ => .iface0]
noncomputable def joinVF (s : Sch) (a b : Val) : Except Int Val :=
  if (isF 16 s && isVF s a) = true ∧ (isF 16 s && isVF s b) = true then (match bothF s a b with | some v => .ok v | none => .error 13) else .error 14
end
theorem zip_m1 {α β : Type} {a : List α} {b : List β} {x : α} {y : β} (h : (x, y) ∈ a.zip b) : x ∈ a := (List.of_mem_zip h).1
theorem zip_m2 {α β : Type} {a : List α} {b : List β} {x : α} {y : β} (h : (x, y) ∈ a.zip b) : y ∈ b := (List.of_mem_zip h).2
theorem okV_mk {n m : Int} {s : List Bs} {c : List (List Tk)} {w : List Val} : okV (.mk n m s c w) ↔ (0 ≤ n ∧ n < 18446744073709551616) ∧ (0 ≤ m ∧ m < 18446744073709551616) ∧ (∀ x ∈ c, ∀ t ∈ x, okTk t) ∧ ∀ x ∈ w, okV x := by rw [okV, okVs_iff]
theorem cap_some {o : Option Val} {v : Val} (h : capF o = some v) : o = some v := by
  cases o with
  | none => cases h
  | some u =>
    unfold capF at h
    simp only [Option.bind_some] at h
    split at h
    · cases h
    · exact h
abbrev ltB (a b : Bs) : Prop := Op.bytesLess a b = true
theorem ltB_cons {x y : UInt8} {a b : Bs} : ltB (x :: a) (y :: b) ↔ x < y ∨ (x = y ∧ ltB a b) := by
  unfold ltB
  simp [Op.bytesLess]
theorem ltB_irrefl : ∀ a : Bs, ¬ ltB a a
  | [] => by simp [ltB, Op.bytesLess]
  | x :: a => by
    rw [ltB_cons]
    rintro (h | ⟨_, h⟩)
    · exact UInt8.lt_irrefl _ h
    · exact ltB_irrefl a h
theorem ltB_trans : ∀ {a b c : Bs}, ltB a b → ltB b c → ltB a c
  | _, [], _, h, _ => by simp [ltB, Op.bytesLess] at h
  | _, _ :: _, [], _, h => by simp [ltB, Op.bytesLess] at h
  | [], _ :: _, _ :: _, _, _ => by simp [ltB, Op.bytesLess]
  | x :: a, y :: b, z :: c, h1, h2 => by
    rw [ltB_cons] at h1 h2 ⊢
    rcases h1 with h1 | ⟨rfl, h1⟩
    · rcases h2 with h2 | ⟨rfl, h2⟩
      · exact .inl (UInt8.lt_trans h1 h2)
      · exact .inl h1
    · rcases h2 with h2 | ⟨rfl, h2⟩
      · exact .inl h2
      · exact .inr ⟨rfl, ltB_trans h1 h2⟩
theorem _root_.zN6 : type_of% @ltB_trans := @ltB_trans
theorem ltB_total : ∀ a b : Bs, ltB a b ∨ a = b ∨ ltB b a
  | [], [] => .inr (.inl rfl)
  | [], _ :: _ => .inl (by simp [ltB, Op.bytesLess])
  | _ :: _, [] => .inr (.inr (by simp [ltB, Op.bytesLess]))
  | x :: a, y :: b => by
    rw [ltB_cons, ltB_cons]
    by_cases h1 : x < y
    · exact .inl (.inl h1)
    · by_cases h2 : y < x
      · exact .inr (.inr (.inl h2))
      · have e : x = y := UInt8.le_antisymm (UInt8.not_lt.1 h2) (UInt8.not_lt.1 h1)
        subst e
        rcases ltB_total a b with h | rfl | h
        · exact .inl (.inr ⟨rfl, h⟩)
        · exact .inr (.inl rfl)
        · exact .inr (.inr (.inr ⟨rfl, h⟩))
theorem ltB_asymm {a b : Bs} (h : ltB a b) : ¬ ltB b a := fun h2 => ltB_irrefl _ (zN6 h h2)
def Up (l : List Bs) : Prop := l.Pairwise ltB
theorem rises_up : ∀ l : List Bs, risesF l = true ↔ Up l
  | [] => by simp [risesF, Up]
  | [x] => by simp [risesF, Up]
  | x :: y :: l => by
    rw [risesF, Bool.and_eq_true, rises_up (y :: l)]
    unfold Up
    rw [zL1 (a := x)]
    constructor
    · rintro ⟨h1, h2⟩
      refine ⟨fun z hz => ?_, h2⟩
      rcases List.mem_cons.1 hz with rfl | hz
      · exact h1
      · exact zN6 h1 ((zL1.1 h2).1 z hz)
    · rintro ⟨h1, h2⟩
      exact ⟨h1 y (.head _), h2⟩
theorem up_cons {x : Bs} {l : List Bs} : Up (x :: l) ↔ (∀ y ∈ l, ltB x y) ∧ Up l := zL1
theorem _root_.zZ2 : type_of% @up_cons := @up_cons
theorem up_ext : ∀ {a b : List Bs}, Up a → Up b → (∀ x, x ∈ a ↔ x ∈ b) → a = b
  | [], [], _, _, _ => rfl
  | [], y :: b, _, _, h => absurd ((h y).2 (.head _)) (by simp)
  | x :: a, [], _, _, h => absurd ((h x).1 (.head _)) (by simp)
  | x :: a, y :: b, ha, hb, h => by
    have ha' := zZ2.1 ha
    have hb' := zZ2.1 hb
    have e : x = y := by
      rcases List.mem_cons.1 ((h x).1 (.head _)) with e | hx
      · exact e
      · rcases List.mem_cons.1 ((h y).2 (.head _)) with e | hy
        · exact e.symm
        · exact absurd (hb'.1 x hx) (ltB_asymm (ha'.1 y hy))
    subst e
    congr 1
    refine up_ext ha'.2 hb'.2 fun z => ⟨fun hz => ?_, fun hz => ?_⟩
    · rcases List.mem_cons.1 ((h z).1 (.tail _ hz)) with rfl | hz2
      · exact absurd (ha'.1 _ hz) (ltB_irrefl _)
      · exact hz2
    · rcases List.mem_cons.1 ((h z).2 (.tail _ hz)) with rfl | hz2
      · exact absurd (hb'.1 _ hz) (ltB_irrefl _)
      · exact hz2
theorem mem_both : ∀ (a b : List Bs) (z : Bs), z ∈ bothX a b ↔ z ∈ a ∨ z ∈ b := by
  intro a b
  induction a, b using bothX.induct with
  | case1 => simp [bothX]
  | case2 x a ih => intro z; rw [bothX, List.mem_cons, ih]; simp
  | case3 y b ih => intro z; rw [bothX, List.mem_cons, ih]; simp
  | case4 x a y b h ih => intro z; rw [bothX, if_pos h, List.mem_cons, ih]; simp [or_assoc]
  | case5 x a y b h h2 ih => intro z; rw [bothX, if_neg h, if_pos h2, List.mem_cons, ih]; simp only [List.mem_cons]; exact or_left_comm
  | case6 x a y b h h2 ih =>
    intro z
    have e : x = y := by
      rcases ltB_total x y with h3 | h3 | h3
      · exact absurd h3 h
      · exact h3
      · exact absurd h3 h2
    subst e
    rw [bothX, if_neg h, if_neg h2, List.mem_cons, ih]
    simp only [List.mem_cons]
    constructor
    · rintro (h | h | h)
      · exact .inl (.inl h)
      · exact .inl (.inr h)
      · exact .inr (.inr h)
    · rintro ((h | h) | (h | h))
      · exact .inl h
      · exact .inr (.inl h)
      · exact .inl h
      · exact .inr (.inr h)
theorem _root_.zH3 : type_of% @mem_both := @mem_both
theorem up_both : ∀ (a b : List Bs), Up a → Up b → Up (bothX a b) := by
  intro a b
  induction a, b using bothX.induct with
  | case1 => intro _ _; simp [bothX, Up]
  | case2 x a ih =>
    intro ha hb
    rw [bothX]
    refine zZ2.2 ⟨fun z hz => ?_, ih (zZ2.1 ha).2 hb⟩
    rw [zH3] at hz
    exact (zZ2.1 ha).1 z (by simpa using hz)
  | case3 y b ih =>
    intro ha hb
    rw [bothX]
    refine zZ2.2 ⟨fun z hz => ?_, ih ha (zZ2.1 hb).2⟩
    rw [zH3] at hz
    exact (zZ2.1 hb).1 z (by simpa using hz)
  | case4 x a y b h ih =>
    intro ha hb
    rw [bothX, if_pos h]
    refine zZ2.2 ⟨fun z hz => ?_, ih (zZ2.1 ha).2 hb⟩
    rw [zH3] at hz
    rcases hz with hz | hz
    · exact (zZ2.1 ha).1 z hz
    · rcases List.mem_cons.1 hz with rfl | hz
      · exact h
      · exact zN6 h ((zZ2.1 hb).1 z hz)
  | case5 x a y b h h2 ih =>
    intro ha hb
    rw [bothX, if_neg h, if_pos h2]
    refine zZ2.2 ⟨fun z hz => ?_, ih ha (zZ2.1 hb).2⟩
    rw [zH3] at hz
    rcases hz with hz | hz
    · rcases List.mem_cons.1 hz with rfl | hz
      · exact h2
      · exact zN6 h2 ((zZ2.1 ha).1 z hz)
    · exact (zZ2.1 hb).1 z hz
  | case6 x a y b h h2 ih =>
    intro ha hb
    have e : x = y := by
      rcases ltB_total x y with h3 | h3 | h3
      · exact absurd h3 h
      · exact h3
      · exact absurd h3 h2
    subst e
    rw [bothX, if_neg h, if_neg h2]
    refine zZ2.2 ⟨fun z hz => ?_, ih (zZ2.1 ha).2 (zZ2.1 hb).2⟩
    rw [zH3] at hz
    rcases hz with hz | hz
    · exact (zZ2.1 ha).1 z hz
    · exact (zZ2.1 hb).1 z hz
def putT (s : Bs) : List Bs → List Bs
  | [] => [s]
  | y :: l => if y = s then y :: l else if Op.bytesLess s y then s :: y :: l else y :: putT s l
theorem mem_put (s : Bs) : ∀ (l : List Bs) (z : Bs), z ∈ putT s l ↔ z = s ∨ z ∈ l
  | [], z => by simp [putT]
  | y :: l, z => by
    rw [putT]
    split
    · rename_i h; subst h; simp
    · split
      · simp
      · rw [List.mem_cons, mem_put s l, List.mem_cons]; exact or_left_comm
theorem up_put (s : Bs) : ∀ (l : List Bs), Up l → Up (putT s l)
  | [], _ => by simp [putT, Up]
  | y :: l, h => by
    rw [putT]
    split
    · exact h
    · rename_i hne
      split
      · rename_i hlt
        refine zZ2.2 ⟨fun z hz => ?_, h⟩
        rcases List.mem_cons.1 hz with rfl | hz
        · exact hlt
        · exact zN6 hlt ((zZ2.1 h).1 z hz)
      · rename_i hlt
        refine zZ2.2 ⟨fun z hz => ?_, up_put s l (zZ2.1 h).2⟩
        rw [mem_put] at hz
        rcases hz with rfl | hz
        · rcases ltB_total z y with h3 | h3 | h3
          · exact absurd h3 hlt
          · exact absurd h3.symm hne
          · exact h3
        · exact (zZ2.1 h).1 z hz
theorem put_len (s : Bs) : ∀ l : List Bs, (putT s l).length ≤ l.length + 1
  | [] => by simp [putT]
  | y :: l => by
    rw [putT]
    split
    · simp
    · split
      · simp
      · have := put_len s l; simp; omega
def putAll (a b : List Bs) : List Bs := b.foldl (fun o x => putT x o) a
theorem putAll_cons (a : List Bs) (x : Bs) (b : List Bs) : putAll a (x :: b) = putAll (putT x a) b := rfl
theorem putAll_snoc (a : List Bs) (x : Bs) (b : List Bs) : putAll a (b ++ [x]) = putT x (putAll a b) := by unfold putAll; rw [List.foldl_append]; rfl
theorem mem_putAll : ∀ (b a : List Bs) (z : Bs), z ∈ putAll a b ↔ z ∈ a ∨ z ∈ b
  | [], a, z => by simp [putAll]
  | x :: b, a, z => by
    rw [putAll_cons, mem_putAll b, mem_put, List.mem_cons]
    constructor
    · rintro ((h | h) | h)
      · exact .inr (.inl h)
      · exact .inl h
      · exact .inr (.inr h)
    · rintro (h | h | h)
      · exact .inl (.inr h)
      · exact .inl (.inl h)
      · exact .inr h
theorem up_putAll : ∀ (b a : List Bs), Up a → Up (putAll a b)
  | [], a, h => h
  | x :: b, a, h => by rw [putAll_cons]; exact up_putAll b _ (up_put x a h)
theorem putAll_len : ∀ (b a : List Bs), (putAll a b).length ≤ a.length + b.length
  | [], a => by simp [putAll]
  | x :: b, a => by
    rw [putAll_cons]
    have h1 := putAll_len b (putT x a)
    have h2 := put_len x a
    simp
    omega
theorem both_put {a b : List Bs} (ha : Up a) (hb : Up b) : putAll a b = bothX a b := up_ext (up_putAll b a ha) (up_both a b ha hb) fun z => by rw [mem_putAll, zH3]
theorem put_skip {s : Bs} : ∀ {l : List Bs} {i : Nat}, i ≤ l.length → (∀ j, j < i → ∀ y, l[j]? = some y → y ≠ s ∧ ¬ ltB s y) → putT s l = l.take i ++ putT s (l.drop i)
  | l, 0, _, _ => rfl
  | [], i + 1, h, _ => by simp at h
  | y :: l, i + 1, h, hn => by
    have h0 := hn 0 (by omega) y rfl
    rw [putT, if_neg h0.1, if_neg h0.2, List.take_succ_cons, List.drop_succ_cons, List.cons_append]
    congr 1
    exact put_skip (by simpa using h) fun j hj z hz => hn (j + 1) (by omega) z (by simpa using hz)
section
section
variable {κ : Type} {cmp : κ → κ → Int}
structure OrdK (cmp : κ → κ → Int) : Prop where
  irr : ∀ a, ¬ cmp a a < 0
  tr : ∀ a b c, cmp a b < 0 → cmp b c < 0 → cmp a c < 0
  tot : ∀ a b, ¬ cmp a b < 0 → ¬ cmp b a < 0 → a = b
open Classical in
noncomputable def look (l : List (κ × Val)) (k : κ) : Option Val := match l with
  | [] => none
  | e :: l => if e.1 = k then some e.2 else look l k
open Classical in
theorem look_cons (e : κ × Val) (l : List (κ × Val)) (k : κ) : look (e :: l) k = if e.1 = k then some e.2 else look l k := rfl
theorem _root_.zO2 : type_of% @look_cons := @look_cons
def SrtK (cmp : κ → κ → Int) (l : List (κ × Val)) : Prop := l.Pairwise fun x y => cmp x.1 y.1 < 0
def HasK (l : List (κ × Val)) (k : κ) : Prop := ∃ e ∈ l, e.1 = k
theorem look_none {l : List (κ × Val)} {k : κ} (h : ¬ HasK l k) : look l k = none := by
  induction l with
  | nil => rfl
  | cons e l ih =>
    rw [look, if_neg (fun he => h ⟨e, .head _, he⟩)]
    exact ih fun ⟨x, hx, e2⟩ => h ⟨x, .tail _ hx, e2⟩
theorem _root_.zE3 : type_of% @look_none := @look_none
theorem look_mem {l : List (κ × Val)} {k : κ} {v : Val} (h : look l k = some v) : (k, v) ∈ l := by
  induction l with
  | nil => cases h
  | cons e l ih =>
    rw [look] at h
    split at h
    · rename_i he
      injection h with h
      subst he; subst h
      exact .head _
    · exact .tail _ (ih h)
theorem _root_.zG6 : type_of% @look_mem := @look_mem
theorem look_has {l : List (κ × Val)} {k : κ} : HasK l k ↔ ∃ v, look l k = some v := by
  constructor
  · intro h
    cases hl : look l k with
    | some v => exact ⟨v, rfl⟩
    | none =>
      exfalso
      induction l with
      | nil => obtain ⟨e, he, _⟩ := h; cases he
      | cons e l ih =>
        rw [look] at hl
        split at hl
        · cases hl
        · rename_i hne
          obtain ⟨x, hx, e2⟩ := h
          rcases List.mem_cons.1 hx with rfl | hx
          · exact hne e2
          · exact ih ⟨x, hx, e2⟩ hl
  · rintro ⟨v, h⟩
    exact ⟨_, zG6 h, rfl⟩
theorem srt_cons {e : κ × Val} {l : List (κ × Val)} : SrtK cmp (e :: l) ↔ (∀ y ∈ l, cmp e.1 y.1 < 0) ∧ SrtK cmp l := zL1
theorem _root_.zB2 : type_of% @srt_cons := @srt_cons
theorem not_has (ho : OrdK cmp) {k : κ} {l : List (κ × Val)} (h : ∀ y ∈ l, cmp k y.1 < 0) : ¬ HasK l k := fun ⟨e, he, e2⟩ => ho.irr k (by have := h e he; rwa [e2] at this)
theorem mem_look (ho : OrdK cmp) {l : List (κ × Val)} (hs : SrtK cmp l) {e : κ × Val} (h : e ∈ l) : look l e.1 = some e.2 := by
  induction l with
  | nil => cases h
  | cons x l ih =>
    have hs' := zB2.1 hs
    rw [look]
    rcases List.mem_cons.1 h with rfl | h
    · rw [if_pos rfl]
    · rw [if_neg]
      · exact ih hs'.2 h
      · intro e2
        have := hs'.1 e h
        rw [e2] at this
        exact ho.irr _ this
theorem _root_.zW4 : type_of% @mem_look := @mem_look
theorem look_ext (ho : OrdK cmp) : ∀ {a b : List (κ × Val)}, SrtK cmp a → SrtK cmp b → (∀ k, look a k = look b k) → a = b
  | [], [], _, _, _ => rfl
  | [], y :: b, _, _, h => by
    have := h y.1
    rw [look, look, if_pos rfl] at this
    cases this
  | x :: a, [], _, _, h => by
    have := h x.1
    rw [look, look, if_pos rfl] at this
    cases this
  | x :: a, y :: b, ha, hb, h => by
    have ha' := zB2.1 ha
    have hb' := zB2.1 hb
    have hk : x.1 = y.1 := by
      refine ho.tot _ _ (fun hlt => ?_) (fun hlt => ?_)
      · have h1 := h x.1
        rw [zW4 ho ha (.head _), zE3 (not_has ho fun z hz => ?_)] at h1
        · cases h1
        · rcases List.mem_cons.1 hz with rfl | hz
          · exact hlt
          · exact ho.tr _ _ _ hlt (hb'.1 z hz)
      · have h1 := h y.1
        rw [zW4 ho hb (.head _), zE3 (not_has ho fun z hz => ?_)] at h1
        · cases h1
        · rcases List.mem_cons.1 hz with rfl | hz
          · exact hlt
          · exact ho.tr _ _ _ hlt (ha'.1 z hz)
    have hv : x.2 = y.2 := by
      have h1 := h x.1
      rw [zW4 ho ha (.head _), hk, zW4 ho hb (.head _)] at h1
      injection h1
    have e : x = y := Prod.ext hk hv
    subst e
    congr 1
    refine look_ext ho ha'.2 hb'.2 fun k => ?_
    by_cases hkx : x.1 = k
    · subst hkx
      rw [zE3 (not_has ho ha'.1), zE3 (not_has ho hb'.1)]
    · have h1 := h k
      rw [look, look, if_neg hkx, if_neg hkx] at h1
      exact h1
def fillE (f : Val → Val → Val) (e : Ent κ) : Val := match e.2.2 with | none => e.2.1 | some w => f e.2.1 w
def mergeG (cmp : κ → κ → Int) (f : Val → Val → Val) (a b : List (κ × Val)) : List (κ × Val) := (mergeE cmp a b).map fun e => (e.1, fillE f e)
def comb (f : Val → Val → Val) : Option Val → Option Val → Option Val
  | none, y => y
  | x, none => x
  | some x, some y => some (f x y)
theorem comb_none (f : Val → Val → Val) (x : Option Val) : comb f x none = x := by cases x <;> rfl
theorem merge_has {f : Val → Val → Val} (ho : OrdK cmp) (a b : List (κ × Val)) (k : κ) : HasK (mergeG cmp f a b) k ↔ HasK a k ∨ HasK b k := by
  unfold HasK mergeG
  simp only [List.mem_map]
  constructor
  · rintro ⟨e, ⟨x, hx, rfl⟩, rfl⟩
    rcases (mergeE_mem cmp a b x hx).1 with h | h
    · exact .inl ⟨_, h, rfl⟩
    · exact .inr ⟨_, h, rfl⟩
  · intro h
    suffices hs : ∃ x ∈ mergeE cmp a b, x.1 = k by
      obtain ⟨x, hx, e⟩ := hs
      exact ⟨_, ⟨x, hx, rfl⟩, e⟩
    revert h
    induction a, b using mergeE.induct cmp with
    | case1 => rintro (⟨e, he, _⟩ | ⟨e, he, _⟩) <;> cases he
    | case2 x a ih =>
      rw [mergeE]
      rintro (⟨e, he, rfl⟩ | ⟨e, he, _⟩)
      · rcases List.mem_cons.1 he with rfl | he
        · exact ⟨_, .head _, rfl⟩
        · obtain ⟨z, hz, e2⟩ := ih (.inl ⟨e, he, rfl⟩)
          exact ⟨z, .tail _ hz, e2⟩
      · cases he
    | case3 y b ih =>
      rw [mergeE]
      rintro (⟨e, he, _⟩ | ⟨e, he, rfl⟩)
      · cases he
      · rcases List.mem_cons.1 he with rfl | he
        · exact ⟨_, .head _, rfl⟩
        · obtain ⟨z, hz, e2⟩ := ih (.inr ⟨e, he, rfl⟩)
          exact ⟨z, .tail _ hz, e2⟩
    | case4 x a y b hlt ih =>
      rw [mergeE, if_pos hlt]
      rintro (⟨e, he, rfl⟩ | h)
      · rcases List.mem_cons.1 he with rfl | he
        · exact ⟨_, .head _, rfl⟩
        · obtain ⟨z, hz, e2⟩ := ih (.inl ⟨e, he, rfl⟩)
          exact ⟨z, .tail _ hz, e2⟩
      · obtain ⟨z, hz, e2⟩ := ih (.inr h)
        exact ⟨z, .tail _ hz, e2⟩
    | case5 x a y b hlt hgt ih =>
      rw [mergeE, if_neg hlt, if_pos hgt]
      rintro (h | ⟨e, he, rfl⟩)
      · obtain ⟨z, hz, e2⟩ := ih (.inl h)
        exact ⟨z, .tail _ hz, e2⟩
      · rcases List.mem_cons.1 he with rfl | he
        · exact ⟨_, .head _, rfl⟩
        · obtain ⟨z, hz, e2⟩ := ih (.inr ⟨e, he, rfl⟩)
          exact ⟨z, .tail _ hz, e2⟩
    | case6 x a y b hlt hgt ih =>
      have exy := ho.tot _ _ hlt hgt
      rw [mergeE, if_neg hlt, if_neg hgt]
      rintro (⟨e, he, rfl⟩ | ⟨e, he, rfl⟩)
      · rcases List.mem_cons.1 he with rfl | he
        · exact ⟨_, .head _, rfl⟩
        · obtain ⟨z, hz, e2⟩ := ih (.inl ⟨e, he, rfl⟩)
          exact ⟨z, .tail _ hz, e2⟩
      · rcases List.mem_cons.1 he with rfl | he
        · exact ⟨_, .head _, exy⟩
        · obtain ⟨z, hz, e2⟩ := ih (.inr ⟨e, he, rfl⟩)
          exact ⟨z, .tail _ hz, e2⟩
theorem keys_lt (ho : OrdK cmp) {f : Val → Val → Val} {k : κ} {a b : List (κ × Val)} (ha : ∀ y ∈ a, cmp k y.1 < 0) (hb : ∀ y ∈ b, cmp k y.1 < 0) : ∀ y ∈ mergeG cmp f a b, cmp k y.1 < 0 := by
  intro y hy
  rcases (merge_has (f := f) ho a b y.1).1 ⟨y, hy, rfl⟩ with ⟨e, he, e2⟩ | ⟨e, he, e2⟩
  · rw [← e2]; exact ha e he
  · rw [← e2]; exact hb e he
theorem merge_srt (ho : OrdK cmp) (f : Val → Val → Val) : ∀ a b : List (κ × Val), SrtK cmp a → SrtK cmp b → SrtK cmp (mergeG cmp f a b) := by
  intro a b
  induction a, b using mergeE.induct cmp with
  | case1 => intro _ _; simp [mergeG, mergeE, SrtK]
  | case2 x a ih =>
    intro ha hb
    have ha' := zB2.1 ha
    have : mergeG cmp f (x :: a) [] = (x.1, x.2) :: mergeG cmp f a [] := by unfold mergeG; rw [mergeE]; rfl
    rw [this]
    exact zB2.2 ⟨keys_lt ho ha'.1 (by simp), ih ha'.2 hb⟩
  | case3 y b ih =>
    intro ha hb
    have hb' := zB2.1 hb
    have : mergeG cmp f [] (y :: b) = (y.1, y.2) :: mergeG cmp f [] b := by unfold mergeG; rw [mergeE]; rfl
    rw [this]
    exact zB2.2 ⟨keys_lt ho (by simp) hb'.1, ih ha hb'.2⟩
  | case4 x a y b hlt ih =>
    intro ha hb
    have ha' := zB2.1 ha
    have hb' := zB2.1 hb
    have : mergeG cmp f (x :: a) (y :: b) = (x.1, x.2) :: mergeG cmp f a (y :: b) := by unfold mergeG; rw [mergeE, if_pos hlt]; rfl
    rw [this]
    refine zB2.2 ⟨keys_lt ho ha'.1 fun z hz => ?_, ih ha'.2 hb⟩
    rcases List.mem_cons.1 hz with rfl | hz
    · exact hlt
    · exact ho.tr _ _ _ hlt (hb'.1 z hz)
  | case5 x a y b hlt hgt ih =>
    intro ha hb
    have ha' := zB2.1 ha
    have hb' := zB2.1 hb
    have : mergeG cmp f (x :: a) (y :: b) = (y.1, y.2) :: mergeG cmp f (x :: a) b := by unfold mergeG; rw [mergeE, if_neg hlt, if_pos hgt]; rfl
    rw [this]
    refine zB2.2 ⟨keys_lt ho (fun z hz => ?_) hb'.1, ih ha hb'.2⟩
    rcases List.mem_cons.1 hz with rfl | hz
    · exact hgt
    · exact ho.tr _ _ _ hgt (ha'.1 z hz)
  | case6 x a y b hlt hgt ih =>
    intro ha hb
    have ha' := zB2.1 ha
    have hb' := zB2.1 hb
    have exy := ho.tot _ _ hlt hgt
    have : mergeG cmp f (x :: a) (y :: b) = (x.1, f x.2 y.2) :: mergeG cmp f a b := by unfold mergeG; rw [mergeE, if_neg hlt, if_neg hgt]; rfl
    rw [this]
    exact zB2.2 ⟨keys_lt ho ha'.1 (fun z hz => by show cmp x.1 z.1 < 0; rw [exy]; exact hb'.1 z hz), ih ha'.2 hb'.2⟩
theorem _root_.zX3 : type_of% @merge_srt := @merge_srt
theorem look_merge (ho : OrdK cmp) (f : Val → Val → Val) : ∀ a b : List (κ × Val), SrtK cmp a → SrtK cmp b → ∀ k, look (mergeG cmp f a b) k = comb f (look a k) (look b k) := by
  intro a b
  induction a, b using mergeE.induct cmp with
  | case1 => intro _ _ k; simp [mergeG, mergeE, look, comb]
  | case2 x a ih =>
    intro ha hb k
    have ha' := zB2.1 ha
    have : mergeG cmp f (x :: a) [] = (x.1, x.2) :: mergeG cmp f a [] := by unfold mergeG; rw [mergeE]; rfl
    rw [this, zO2, zO2, ih ha'.2 hb]
    rw [show look ([] : List (κ × Val)) k = none from rfl, comb_none, comb_none]
  | case3 y b ih =>
    intro ha hb k
    have hb' := zB2.1 hb
    have : mergeG cmp f [] (y :: b) = (y.1, y.2) :: mergeG cmp f [] b := by unfold mergeG; rw [mergeE]; rfl
    rw [this, zO2, ih ha hb'.2]
    rw [show look ([] : List (κ × Val)) k = none from rfl, zO2]
    rfl
  | case4 x a y b hlt ih =>
    intro ha hb k
    have ha' := zB2.1 ha
    have hb' := zB2.1 hb
    have : mergeG cmp f (x :: a) (y :: b) = (x.1, x.2) :: mergeG cmp f a (y :: b) := by unfold mergeG; rw [mergeE, if_pos hlt]; rfl
    rw [this, zO2, ih ha'.2 hb]
    by_cases hk : x.1 = k
    · subst hk
      rw [if_pos rfl, zW4 ho ha (.head _), zE3 (not_has ho (k := x.1) (l := y :: b) fun z hz => ?_)]
      · rfl
      · rcases List.mem_cons.1 hz with rfl | hz
        · exact hlt
        · exact ho.tr _ _ _ hlt (hb'.1 z hz)
    · rw [if_neg hk]
      congr 1
      rw [zO2, if_neg hk]
  | case5 x a y b hlt hgt ih =>
    intro ha hb k
    have ha' := zB2.1 ha
    have hb' := zB2.1 hb
    have : mergeG cmp f (x :: a) (y :: b) = (y.1, y.2) :: mergeG cmp f (x :: a) b := by unfold mergeG; rw [mergeE, if_neg hlt, if_pos hgt]; rfl
    rw [this, zO2, ih ha hb'.2]
    by_cases hk : y.1 = k
    · subst hk
      rw [if_pos rfl, zW4 ho hb (.head _), zE3 (not_has ho (k := y.1) (l := x :: a) fun z hz => ?_)]
      · rfl
      · rcases List.mem_cons.1 hz with rfl | hz
        · exact hgt
        · exact ho.tr _ _ _ hgt (ha'.1 z hz)
    · rw [if_neg hk]
      congr 1
      conv => rhs; rw [zO2, if_neg hk]
  | case6 x a y b hlt hgt ih =>
    intro ha hb k
    have ha' := zB2.1 ha
    have hb' := zB2.1 hb
    have exy := ho.tot _ _ hlt hgt
    have : mergeG cmp f (x :: a) (y :: b) = (x.1, f x.2 y.2) :: mergeG cmp f a b := by unfold mergeG; rw [mergeE, if_neg hlt, if_neg hgt]; rfl
    rw [this, zO2, ih ha'.2 hb'.2]
    by_cases hk : x.1 = k
    · subst hk
      rw [if_pos rfl, zW4 ho ha (.head _), exy, zW4 ho hb (.head _)]
      rfl
    · rw [if_neg hk]
      conv => rhs; rw [zO2, if_neg hk, zO2, if_neg (exy ▸ hk)]
theorem _root_.zA4 : type_of% @look_merge := @look_merge
structure SemiL (P : Val → Prop) (f : Val → Val → Val) : Prop where
  cl : ∀ x y, P x → P y → P (f x y)
  comm : ∀ x y, P x → P y → f x y = f y x
  assoc : ∀ x y z, P x → P y → P z → f (f x y) z = f x (f y z)
  idem : ∀ x, P x → f x x = x
def AllV (P : Val → Prop) (l : List (κ × Val)) : Prop := ∀ e ∈ l, P e.2
theorem look_allV {P : Val → Prop} {l : List (κ × Val)} (h : AllV P l) {k : κ} {v : Val} (hl : look l k = some v) : P v := h _ (zG6 hl)
theorem _root_.zX2 : type_of% @look_allV := @look_allV
theorem comb_P {P : Val → Prop} {f : Val → Val → Val} (hf : SemiL P f) {x y : Option Val} (hx : ∀ v, x = some v → P v) (hy : ∀ v, y = some v → P v) : ∀ v, comb f x y = some v → P v := by
  intro v h
  cases x with
  | none => exact hy v h
  | some x =>
    cases y with
    | none => exact hx v h
    | some y =>
      injection h with h
      subst h
      exact hf.cl _ _ (hx _ rfl) (hy _ rfl)
theorem comb_comm {P : Val → Prop} {f : Val → Val → Val} (hf : SemiL P f) {x y : Option Val} (hx : ∀ v, x = some v → P v) (hy : ∀ v, y = some v → P v) : comb f x y = comb f y x := by
  cases x with
  | none => rw [comb_none]; rfl
  | some x =>
    cases y with
    | none => rfl
    | some y => simp only [comb]; rw [hf.comm _ _ (hx _ rfl) (hy _ rfl)]
theorem comb_assoc {P : Val → Prop} {f : Val → Val → Val} (hf : SemiL P f) {x y z : Option Val} (hx : ∀ v, x = some v → P v) (hy : ∀ v, y = some v → P v) (hz : ∀ v, z = some v → P v) : comb f (comb f x y) z = comb f x (comb f y z) := by
  cases x with
  | none => rfl
  | some x =>
    cases y with
    | none => rfl
    | some y =>
      cases z with
      | none => rfl
      | some z => simp only [comb]; rw [hf.assoc _ _ _ (hx _ rfl) (hy _ rfl) (hz _ rfl)]
theorem comb_idem {P : Val → Prop} {f : Val → Val → Val} (hf : SemiL P f) {x : Option Val} (hx : ∀ v, x = some v → P v) : comb f x x = x := by
  cases x with
  | none => rfl
  | some x => simp only [comb]; rw [hf.idem _ (hx _ rfl)]
theorem merge_allV {P : Val → Prop} {f : Val → Val → Val} (hf : SemiL P f) (ho : OrdK cmp) {a b : List (κ × Val)} (ha : SrtK cmp a) (hb : SrtK cmp b) (pa : AllV P a) (pb : AllV P b) : AllV P (mergeG cmp f a b) := fun e he => by
  have h := zW4 ho (zX3 ho f a b ha hb) he
  rw [zA4 ho f a b ha hb] at h
  exact comb_P hf (fun v => zX2 pa) (fun v => zX2 pb) _ h
theorem mergeG_comm {P : Val → Prop} {f : Val → Val → Val} (hf : SemiL P f) (ho : OrdK cmp) {a b : List (κ × Val)} (ha : SrtK cmp a) (hb : SrtK cmp b) (pa : AllV P a) (pb : AllV P b) : mergeG cmp f a b = mergeG cmp f b a :=
  look_ext ho (zX3 ho f a b ha hb) (zX3 ho f b a hb ha) fun k => by
    rw [zA4 ho f a b ha hb, zA4 ho f b a hb ha, comb_comm hf (fun v => zX2 pa) (fun v => zX2 pb)]
theorem mergeG_assoc {P : Val → Prop} {f : Val → Val → Val} (hf : SemiL P f) (ho : OrdK cmp) {a b c : List (κ × Val)} (ha : SrtK cmp a) (hb : SrtK cmp b) (hc : SrtK cmp c) (pa : AllV P a) (pb : AllV P b) (pc : AllV P c) : mergeG cmp f (mergeG cmp f a b) c = mergeG cmp f a (mergeG cmp f b c) := by
  have hab := zX3 ho f a b ha hb
  have hbc := zX3 ho f b c hb hc
  refine look_ext ho (zX3 ho f _ _ hab hc) (zX3 ho f _ _ ha hbc) fun k => ?_
  rw [zA4 ho f _ _ hab hc, zA4 ho f a b ha hb, zA4 ho f _ _ ha hbc, zA4 ho f b c hb hc]
  exact comb_assoc hf (fun v => zX2 pa) (fun v => zX2 pb) (fun v => zX2 pc)
theorem mergeG_idem {P : Val → Prop} {f : Val → Val → Val} (hf : SemiL P f) (ho : OrdK cmp) {a : List (κ × Val)} (ha : SrtK cmp a) (pa : AllV P a) : mergeG cmp f a a = a :=
  look_ext ho (zX3 ho f a a ha ha) ha fun k => by rw [zA4 ho f a a ha ha, comb_idem hf (fun v => zX2 pa)]
theorem mergeG_nil {f : Val → Val → Val} : ∀ a : List (κ × Val), mergeG cmp f a [] = a
  | [] => by simp [mergeG, mergeE]
  | x :: a => by
    have : mergeG cmp f (x :: a) [] = (x.1, x.2) :: mergeG cmp f a [] := by unfold mergeG; rw [mergeE]; rfl
    rw [this, mergeG_nil a]
variable {blw : κ → κ → Prop}
structure PoK (blw : κ → κ → Prop) (Q : κ → Prop) : Prop where
  irr : ∀ a, Q a → ¬ blw a a
  tr : ∀ a b c, Q a → Q b → Q c → blw a b → blw b c → blw a c
def AllK (Q : κ → Prop) (l : List (κ × Val)) : Prop := ∀ e ∈ l, Q e.1
def Dead (blw : κ → κ → Prop) (K : κ → Prop) (k : κ) : Prop := ∃ o, K o ∧ blw k o
open Classical in
noncomputable def topG (cmp : κ → κ → Int) (blw : κ → κ → Prop) (f : Val → Val → Val) (a b : List (κ × Val)) : List (κ × Val) := (mergeG cmp f a b).filter fun e => decide (¬ Dead blw (HasK (mergeG cmp f a b)) e.1)
theorem look_filter (q : κ → Bool) : ∀ (l : List (κ × Val)) (k : κ), look (l.filter fun e => q e.1) k = if q k = true then look l k else none
  | [], k => by simp [look]
  | e :: l, k => by
    by_cases hp : q e.1 = true
    · rw [List.filter_cons_of_pos (p := fun e : κ × Val => q e.1) hp, zO2, look_filter q l k, zO2]
      by_cases hk : e.1 = k
      · subst hk; simp [hp]
      · simp [hk]
    · rw [List.filter_cons_of_neg (p := fun e : κ × Val => q e.1) hp, look_filter q l k, zO2]
      by_cases hk : e.1 = k
      · subst hk; simp [hp]
      · simp [hk]
def Or2 (a b : List (κ × Val)) (k : κ) : Prop := HasK a k ∨ HasK b k
open Classical in
theorem look_top (ho : OrdK cmp) {f : Val → Val → Val} {a b : List (κ × Val)} (ha : SrtK cmp a) (hb : SrtK cmp b) (k : κ) : look (topG cmp blw f a b) k = if Dead blw (Or2 a b) k then none else comb f (look a k) (look b k) := by
  unfold topG
  rw [look_filter (fun k => decide (¬ Dead blw (HasK (mergeG cmp f a b)) k)), zA4 ho f a b ha hb]
  have : Dead blw (HasK (mergeG cmp f a b)) k ↔ Dead blw (Or2 a b) k := by
    unfold Dead Or2
    simp only [merge_has ho]
  by_cases h : Dead blw (Or2 a b) k
  · rw [if_pos h, if_neg (by simpa using this.2 h)]
  · rw [if_neg h, if_pos (by simpa using fun h2 => h (this.1 h2))]
theorem top_srt (ho : OrdK cmp) {f : Val → Val → Val} {a b : List (κ × Val)} (ha : SrtK cmp a) (hb : SrtK cmp b) : SrtK cmp (topG cmp blw f a b) := (zX3 ho f a b ha hb).filter _
theorem comb_some {f : Val → Val → Val} {x y : Option Val} : (∃ v, comb f x y = some v) ↔ (∃ v, x = some v) ∨ ∃ v, y = some v := by
  cases x <;> cases y <;> simp [comb]
theorem top_has (ho : OrdK cmp) {f : Val → Val → Val} {a b : List (κ × Val)} (ha : SrtK cmp a) (hb : SrtK cmp b) (k : κ) : HasK (topG cmp blw f a b) k ↔ ¬ Dead blw (Or2 a b) k ∧ Or2 a b k := by
  rw [look_has, look_top ho ha hb]
  by_cases h : Dead blw (Or2 a b) k
  · rw [if_pos h]; simp [h]
  · rw [if_neg h, comb_some, ← look_has, ← look_has]; simp [h, Or2]
theorem top_above {Q : κ → Prop} (hp : PoK blw Q) (l : List κ) (hQ : ∀ k ∈ l, Q k) : ∀ k ∈ l, ∃ t ∈ l, (t = k ∨ blw k t) ∧ ∀ o ∈ l, ¬ blw t o := by
  classical
  suffices h : ∀ n k, k ∈ l → (l.filter fun o => decide (blw k o)).length ≤ n → ∃ t ∈ l, (t = k ∨ blw k t) ∧ ∀ o ∈ l, ¬ blw t o from fun k hk => h _ k hk (Nat.le_refl _)
  intro n
  induction n with
  | zero =>
    intro k hk hn
    refine ⟨k, hk, .inl rfl, fun o ho hb => ?_⟩
    have : o ∈ l.filter fun o => decide (blw k o) := List.mem_filter.2 ⟨ho, by simpa using hb⟩
    have := List.length_pos_of_mem this
    omega
  | succ n ih =>
    intro k hk hn
    by_cases he : ∃ o ∈ l, blw k o
    · obtain ⟨o, ho, hb⟩ := he
      have hlt : (l.filter fun x => decide (blw o x)).length < (l.filter fun x => decide (blw k x)).length := by
        have hsub : ((l.filter fun x => decide (blw k x)).filter fun x => decide (blw o x)) = l.filter fun x => decide (blw o x) := by
          rw [List.filter_filter]
          refine List.filter_congr fun x hx => ?_
          by_cases h : blw o x
          · simp [h, hp.tr _ _ _ (hQ k hk) (hQ o ho) (hQ x hx) hb h]
          · simp [h]
        rw [← hsub]
        have hle := List.length_filter_le (fun x => decide (blw o x)) (l.filter fun x => decide (blw k x))
        rcases Nat.lt_or_ge ((l.filter fun x => decide (blw k x)).filter fun x => decide (blw o x)).length (l.filter fun x => decide (blw k x)).length with h | h
        · exact h
        · exfalso
          have heq : ((l.filter fun x => decide (blw k x)).filter fun x => decide (blw o x)) = l.filter fun x => decide (blw k x) := List.filter_eq_self.2 (List.length_filter_eq_length_iff.1 (Nat.le_antisymm hle h))
          have hm : o ∈ l.filter fun x => decide (blw k x) := List.mem_filter.2 ⟨ho, by simpa using hb⟩
          rw [← heq] at hm
          have := (List.mem_filter.1 hm).2
          exact hp.irr o (hQ o ho) (by simpa using this)
      obtain ⟨t, ht, h1, h2⟩ := ih o ho (by omega)
      refine ⟨t, ht, .inr ?_, h2⟩
      rcases h1 with rfl | h1
      · exact hb
      · exact hp.tr _ _ _ (hQ k hk) (hQ o ho) (hQ t ht) hb h1
    · exact ⟨k, hk, .inl rfl, fun o ho hb => he ⟨o, ho, hb⟩⟩
theorem top_dead {Q : κ → Prop} (hp : PoK blw Q) (ho : OrdK cmp) {f : Val → Val → Val} {a b c : List (κ × Val)} (ha : SrtK cmp a) (hb : SrtK cmp b) (qa : AllK Q a) (qb : AllK Q b) (qc : AllK Q c) {k : κ} (hk : Q k) :
    Dead blw (Or2 (topG cmp blw f a b) c) k ↔ Dead blw (fun k => Or2 a b k ∨ HasK c k) k := by
  constructor
  · rintro ⟨o, h | h, hb2⟩
    · exact ⟨o, .inl ((top_has ho ha hb o).1 h).2, hb2⟩
    · exact ⟨o, .inr h, hb2⟩
  · rintro ⟨o, h | h, hb2⟩
    · have hl : o ∈ (a ++ b).map (·.1) := by
        rw [List.mem_map]
        rcases h with ⟨e, he, e2⟩ | ⟨e, he, e2⟩
        · exact ⟨e, List.mem_append_left _ he, e2⟩
        · exact ⟨e, List.mem_append_right _ he, e2⟩
      have hQ : ∀ k ∈ (a ++ b).map (·.1), Q k := by
        intro k hk
        obtain ⟨e, he, rfl⟩ := List.mem_map.1 hk
        rcases zS1.1 he with he | he
        · exact qa e he
        · exact qb e he
      have hmem : ∀ t, t ∈ (a ++ b).map (·.1) ↔ Or2 a b t := by
        intro t
        rw [List.mem_map]
        constructor
        · rintro ⟨e, he, e2⟩
          rcases zS1.1 he with he | he
          · exact .inl ⟨e, he, e2⟩
          · exact .inr ⟨e, he, e2⟩
        · rintro (⟨e, he, e2⟩ | ⟨e, he, e2⟩)
          · exact ⟨e, List.mem_append_left _ he, e2⟩
          · exact ⟨e, List.mem_append_right _ he, e2⟩
      obtain ⟨t, ht, h1, h2⟩ := top_above hp _ hQ o hl
      refine ⟨t, .inl ((top_has ho ha hb t).2 ⟨fun ⟨d, hd, hbd⟩ => h2 d ((hmem d).2 hd) hbd, (hmem t).1 ht⟩), ?_⟩
      rcases h1 with rfl | h1
      · exact hb2
      · exact hp.tr _ _ _ hk (hQ o hl) (hQ t ht) hb2 h1
    · exact ⟨o, .inr h, hb2⟩
theorem top_allV {P : Val → Prop} {f : Val → Val → Val} (hf : SemiL P f) (ho : OrdK cmp) {a b : List (κ × Val)} (ha : SrtK cmp a) (hb : SrtK cmp b) (pa : AllV P a) (pb : AllV P b) : AllV P (topG cmp blw f a b) := fun e he => merge_allV hf ho ha hb pa pb e (List.mem_filter.1 he).1
theorem top_allK {Q : κ → Prop} (ho : OrdK cmp) {f : Val → Val → Val} {a b : List (κ × Val)} (qa : AllK Q a) (qb : AllK Q b) : AllK Q (topG cmp blw f a b) := fun e he => by
  rcases (merge_has (f := f) ho a b e.1).1 ⟨e, (List.mem_filter.1 he).1, rfl⟩ with ⟨x, hx, e2⟩ | ⟨x, hx, e2⟩
  · rw [← e2]; exact qa x hx
  · rw [← e2]; exact qb x hx
def AntiK (blw : κ → κ → Prop) (l : List (κ × Val)) : Prop := ∀ x ∈ l, ∀ y ∈ l, ¬ blw x.1 y.1
theorem top_anti (ho : OrdK cmp) {f : Val → Val → Val} (a b : List (κ × Val)) : AntiK blw (topG cmp blw f a b) := fun x hx y hy h => by
  have := (List.mem_filter.1 hx).2
  simp only [decide_eq_true_eq] at this
  exact this ⟨y.1, ⟨y, (List.mem_filter.1 hy).1, rfl⟩, h⟩
theorem topG_comm {P : Val → Prop} {f : Val → Val → Val} (hf : SemiL P f) (ho : OrdK cmp) {a b : List (κ × Val)} (ha : SrtK cmp a) (hb : SrtK cmp b) (pa : AllV P a) (pb : AllV P b) : topG cmp blw f a b = topG cmp blw f b a := by
  unfold topG
  rw [mergeG_comm hf ho ha hb pa pb]
theorem topG_assoc {P : Val → Prop} {Q : κ → Prop} {f : Val → Val → Val} (hf : SemiL P f) (hp : PoK blw Q) (ho : OrdK cmp) {a b c : List (κ × Val)} (ha : SrtK cmp a) (hb : SrtK cmp b) (hc : SrtK cmp c) (pa : AllV P a) (pb : AllV P b) (pc : AllV P c) (qa : AllK Q a) (qb : AllK Q b) (qc : AllK Q c) : topG cmp blw f (topG cmp blw f a b) c = topG cmp blw f a (topG cmp blw f b c) := by
  classical
  have hab := top_srt (blw := blw) (f := f) ho ha hb
  have hbc := top_srt (blw := blw) (f := f) ho hb hc
  have pbc := top_allV (blw := blw) hf ho hb hc pb pc
  rw [topG_comm hf ho ha hbc pa pbc]
  refine look_ext ho (top_srt ho hab hc) (top_srt ho hbc ha) fun k => ?_
  rw [look_top ho hab hc, look_top ho hbc ha]
  by_cases hk : HasK a k ∨ HasK b k ∨ HasK c k
  · have hQ : Q k := by
      rcases hk with ⟨e, he, rfl⟩ | ⟨e, he, rfl⟩ | ⟨e, he, rfl⟩
      · exact qa e he
      · exact qb e he
      · exact qc e he
    have h1 := top_dead (f := f) hp ho ha hb qa qb qc hQ
    have h2 := top_dead (f := f) hp ho hb hc qb qc qa hQ
    have h3 : Dead blw (fun k => Or2 a b k ∨ HasK c k) k ↔ Dead blw (fun k => Or2 b c k ∨ HasK a k) k := by
      unfold Dead Or2
      constructor
      · rintro ⟨o, ((h | h) | h), hb⟩
        · exact ⟨o, .inr h, hb⟩
        · exact ⟨o, .inl (.inl h), hb⟩
        · exact ⟨o, .inl (.inr h), hb⟩
      · rintro ⟨o, ((h | h) | h), hb⟩
        · exact ⟨o, .inl (.inr h), hb⟩
        · exact ⟨o, .inr h, hb⟩
        · exact ⟨o, .inl (.inl h), hb⟩
    by_cases hd : Dead blw (fun k => Or2 a b k ∨ HasK c k) k
    · rw [if_pos (h1.2 hd), if_pos (h2.2 (h3.1 hd))]
    · rw [if_neg (fun h => hd (h1.1 h)), if_neg (fun h => hd (h3.2 (h2.1 h))), look_top ho ha hb, look_top ho hb hc]
      rw [if_neg (fun ⟨o, h, hb⟩ => hd ⟨o, .inl h, hb⟩), if_neg (fun ⟨o, h, hb⟩ => hd (h3.2 ⟨o, .inl h, hb⟩))]
      rw [comb_assoc hf (fun v => zX2 pa) (fun v => zX2 pb) (fun v => zX2 pc)]
      exact comb_comm hf (fun v => zX2 pa) (comb_P hf (fun v => zX2 pb) (fun v => zX2 pc))
  · have hna : ¬ HasK a k := fun h => hk (.inl h)
    have hnb : ¬ HasK b k := fun h => hk (.inr (.inl h))
    have hnc : ¬ HasK c k := fun h => hk (.inr (.inr h))
    have e1 : look (topG cmp blw f a b) k = none := zE3 fun h => by
      rcases ((top_has ho ha hb k).1 h).2 with h | h
      · exact hna h
      · exact hnb h
    have e2 : look (topG cmp blw f b c) k = none := zE3 fun h => by
      rcases ((top_has ho hb hc k).1 h).2 with h | h
      · exact hnb h
      · exact hnc h
    rw [e1, e2, zE3 hnc, zE3 hna]
    simp [comb]
theorem filter_true {α : Type} {l : List α} {p : α → Bool} (h : ∀ x ∈ l, p x = true) : l.filter p = l := List.filter_eq_self.2 h
theorem topG_idem {P : Val → Prop} {f : Val → Val → Val} (hf : SemiL P f) (ho : OrdK cmp) {a : List (κ × Val)} (ha : SrtK cmp a) (pa : AllV P a) (hn : AntiK blw a) : topG cmp blw f a a = a := by
  unfold topG
  rw [mergeG_idem hf ho ha pa]
  exact filter_true fun x hx => by
    simp only [decide_eq_true_eq]
    rintro ⟨o, ⟨y, hy, rfl⟩, hb⟩
    exact hn x hx y hy hb
theorem topG_nil {f : Val → Val → Val} {a : List (κ × Val)} (hn : AntiK blw a) : topG cmp blw f a [] = a := by
  unfold topG
  rw [mergeG_nil]
  exact filter_true fun x hx => by
    simp only [decide_eq_true_eq]
    rintro ⟨o, ⟨y, hy, rfl⟩, hb⟩
    exact hn x hx y hy hb
end
theorem cmpX_lt {a b : Bs} : cmpX a b < 0 ↔ ltB a b := by
  rw [cmpX_eq, ltB]
  split
  · rename_i h; simp [h]
  · rename_i h
    split <;> simp [h]
theorem ordX : OrdK cmpX where
  irr a h := ltB_irrefl a (cmpX_lt.1 h)
  tr a b c h1 h2 := cmpX_lt.2 (zN6 (cmpX_lt.1 h1) (cmpX_lt.1 h2))
  tot a b h1 h2 := by
    rcases ltB_total a b with h | h | h
    · exact absurd (cmpX_lt.2 h) h1
    · exact h
    · exact absurd (cmpX_lt.2 h) h2
theorem tick_swap (x y : Tk) : tickC x y < 0 ∨ x = y ∨ tickC y x < 0 := by
  by_cases h : x = y
  · exact .inr (.inl h)
  · rw [tick_neg, tick_neg]
    have : ¬ (x.1 = y.1 ∧ x.2 = y.2) := fun e => h (Prod.ext e.1 e.2)
    omega
theorem ticks_self : ∀ a : List Tk, byTicksF a a = 0
  | [] => rfl
  | x :: a => by rw [byTicksF, if_neg (by simp [tick_zero]), ticks_self a]
theorem ticks_tot : ∀ a b : List Tk, byTicksF a b < 0 ∨ a = b ∨ byTicksF b a < 0
  | [], [] => .inr (.inl rfl)
  | [], _ :: _ => .inl (by simp [byTicksF])
  | _ :: _, [] => .inr (.inr (by simp [byTicksF]))
  | x :: a, y :: b => by
    rw [byTicksF, byTicksF]
    rcases tick_swap x y with h | h | h
    · rw [if_pos (by omega)]; exact .inl h
    · subst h
      rw [if_neg (by simp [tick_zero]), if_neg (by simp [tick_zero])]
      rcases ticks_tot a b with h | h | h
      · exact .inl h
      · exact .inr (.inl (by rw [h]))
      · exact .inr (.inr h)
    · rw [if_pos (show tickC y x ≠ 0 by omega)]; exact .inr (.inr h)
theorem ordT : OrdK byTicksF where
  irr a h := by rw [ticks_self] at h; omega
  tr a b c h1 h2 := ticks_trans h1 h2
  tot a b h1 h2 := by
    rcases ticks_tot a b with h | h | h
    · exact absurd h h1
    · exact h
    · exact absurd h h2
end
end Go.Proofs.YtnfcnpdpfgcchaaGreatDoor
namespace Go.Proofs.YtnfcnpdpfgcchaaGreatDoor
open Go Go.MV
theorem large_eq (n m : Int) (s : List Bs) (c : List (List Tk)) (w : List Val) : largeF (.mk n m s c w) = (decide (40 < max (max s.length c.length) w.length) || (decide (c.length = 1) && decide (40 < (c.headD []).length))) := by
 unfold largeF
 congr 1
 rcases c with _ | ⟨x, _ | ⟨y, c⟩⟩ <;> simp [Val.cv]
theorem _root_.zJ5 : type_of% @large_eq := @large_eq
theorem or_three (a b c : Int) : orF [a, b, c] = if a ≠ 0 then a else if b ≠ 0 then b else c := by
 rw [or_cons, or_cons, or_cons]
 by_cases ha : a = 0 <;> by_cases hb : b = 0 <;> by_cases hc : c = 0 <;> simp [ha, hb, hc, orF]
theorem jTicks1_spec (x y : Tk) (S : MS) : MCalls Tryz.prog 140 [encT x, encT y] S fun v σ' => v = .int .i64 (tickC x y) ∧ σ' = S := by
 refine zU Tryz.func140 rfl Tryz.ntmps140 (zA rfl) ?_
 refine zB <| qR rfl <| qB rfl rfl rfl rfl rfl <| qB rfl rfl rfl rfl rfl <| qA rfl rfl rfl <| qN <| zB ?_
 refine zU0 [] [_] mo (by decide) rfl rfl rfl rfl ?_
 refine dO rfl rfl rfl (zE rfl rfl zI3 ⟨rfl, rfl⟩) <| dO rfl rfl rfl (zD0 rfl rfl rfl ta3 rfl ⟨rfl, rfl⟩) <| dO rfl rfl rfl (zE rfl rfl zI3 ⟨rfl, rfl⟩) <| dO rfl rfl rfl (zD0 rfl rfl rfl ta3 rfl ⟨rfl, rfl⟩) <| zS rfl rfl (.cons (zH1 rfl rfl rfl co141 (compare_spec x.1 y.1 _)) .nil) <| dO rfl rfl rfl (zE rfl rfl zZ4 ⟨rfl, rfl⟩) <| dO rfl rfl rfl (zD0 rfl rfl rfl ta25 rfl ⟨rfl, rfl⟩) <| dO rfl rfl rfl (zE rfl rfl zZ4 ⟨rfl, rfl⟩) <| dO rfl rfl rfl (zD0 rfl rfl rfl ta25 rfl ⟨rfl, rfl⟩) <| zS rfl rfl (.cons (zH1 rfl rfl rfl co97 (compareu_spec x.2 y.2 _)) .nil) <| dO rfl rfl rfl (zC1 rfl zF6 el3 rfl rfl (by decide) (by decide) rfl rfl ⟨rfl, rfl⟩) ?_
 refine zS rfl rfl (.cons (zH1 rfl rfl rfl co96 (cmpOr_spec [cmpI x.1 y.1, cmpI x.2 y.2] _)) .nil) <| dO rfl rfl rfl (zB1 rfl rfl ⟨rfl, rfl⟩) <| zL0 <| zK ?_
 exact zQ (.inr rfl) Tryz.results140 rfl (.of_eq (by rw [or_two]; rfl)) (.int _ _) ⟨rfl, rfl⟩
theorem jCmpFunc_spec (a b : List Tk) (S : MS) : MCalls Tryz.prog 139 [.lst none 2 (a.map encT), .lst none 2 (b.map encT), .fn (.func 140) [] []] S fun v σ' => v = .int .i64 (byTicksF a b) ∧ σ' = S := by
 refine zU Tryz.func139 rfl Tryz.ntmps139 (zA rfl) ?_
 refine zN2 (t := 0) rfl fun hlen => ?_
 rw [zC] at hlen
 refine zB <| qR rfl <| qA rfl rfl rfl <| qN <| zB <| zB <| qR rfl <| qM rfl rfl rfl <| qE rfl rfl zP rfl <| qM rfl rfl rfl <| qN <| zB0 ?_
 refine zR4 (α := Nat) [(0, _), (1, _), (2, _), (11, _), (12, _)] (fun i => [(13, .int .i64 (i : Int))]) (fun i => []) (fun i => i ≤ a.length ∧ i ≤ b.length ∧ byTicksF (a.drop i) (b.drop i) = byTicksF a b) (fun i => a.length - i) (0) (Nat.le_refl _) (.keep rfl (.keep rfl (.keep rfl (.keep rfl (.keep rfl (.nil)))))) (.keep rfl (.nil)) (⟨by omega, by omega, rfl⟩) (rfl) ?_
 rintro i ⟨hi, hib, he⟩
 refine zB <| qR rfl <| qC rfl rfl rfl rfl rfl <| qN <| zB ?_
 refine zJ rfl (fun h14 => ?_) (fun h14 => ?_)
 ·
  have hlt : i < a.length := by simpa using h14
  obtain ⟨x, hs⟩ : ∃ q_, a[i]? = some q_ := ⟨_, zD hlt⟩
  refine zA0 <| zB <| zB0 <| zB <| qR rfl <| qM rfl rfl rfl <| qO rfl <| zG rfl zP sz59 (by decide) rfl rfl rfl (zV0 hs) ?_
  refine qO rfl <| zH rfl rfl ta59 rfl <| qO rfl <| zN0 rfl zm59 rfl rfl <| qA rfl rfl rfl <| qO rfl <| zH0 rfl rfl rfl rfl sz59 rfl rfl (zA rfl) rfl <| qN <| zB <| zB <| qR rfl <| qM rfl rfl rfl <| qM rfl rfl rfl <| qE rfl rfl zP rfl <| qC rfl rfl rfl rfl rfl <| qN ?_
  refine zJ rfl (fun h21 => ?_) (fun h21 => ?_)
  ·
   have hbe : b.drop i = [] := by rw [zC] at h21; simp at h21; exact List.drop_eq_nil_of_le (by omega)
   refine zB <| qR rfl <| qA rfl rfl rfl <| qN <| zK ?_
   exact zQ (.inr rfl) zW3 rfl (.of_eq (by rw [← he, hbe, zO4 hs]; rfl)) (.int _ _) ⟨rfl, rfl⟩
  ·
   have hltb : i < b.length := by rw [zC] at h21; simp at h21; omega
   obtain ⟨y, hs2⟩ : ∃ s, b[i]? = some s := ⟨_, zD hltb⟩
   refine zA0 <| zB <| qR rfl <| qM rfl rfl rfl <| qM rfl rfl rfl <| qO rfl <| zG rfl zP sz59 (by decide) rfl rfl rfl (zV0 hs2) ?_
   refine qO rfl <| zH rfl rfl ta59 rfl <| qO rfl <| zN0 rfl zm59 rfl rfl <| qO rfl <| zH0 rfl rfl rfl rfl sz59 rfl rfl (zA rfl) rfl <| qN <| zB <| qR rfl <| qM rfl rfl rfl <| qL rfl rfl rfl rfl ta59 rfl <| qL rfl rfl rfl rfl ta59 rfl ?_
   refine qX rfl rfl rfl rfl co140 (jTicks1_spec x y _) ?_
   refine qA rfl rfl rfl <| qN <| zB <| qR rfl <| qM rfl rfl rfl <| qC rfl rfl rfl rfl rfl <| qN ?_
   refine zJ rfl (fun h31 => ?_) (fun h31 => ?_)
   ·
    refine zB <| qR rfl <| qM rfl rfl rfl <| qA rfl rfl rfl <| qN <| zK ?_
    exact zQ (.inr rfl) zW3 rfl (.of_eq (by rw [← he, ticks_at hs hs2, if_pos (by simpa using h31)])) (.int _ _) ⟨rfl, rfl⟩
   ·
    refine zA0 <| qR rfl <| qO rfl <| zY0 rfl rfl rfl rfl <| qM rfl rfl rfl <| qN ?_
    refine ⟨i + 1, _, by omega, ⟨by omega, by omega, by rw [← he, ticks_at hs hs2, if_neg (by simpa using h31)]⟩, rfl, .nil, (.old rfl rfl (.old rfl rfl (.old rfl rfl (.old rfl rfl (.old rfl rfl (.nil)))))), (.new' rfl (zM1 hlt hlen) (.int _ _) (.nil))⟩
 ·
  have hge : i = a.length := by simp at h14; omega
  refine zN1 <| zB <| zB <| qR rfl <| qM rfl rfl rfl <| qE rfl rfl zP rfl <| qM rfl rfl rfl <| qE rfl rfl zP rfl <| qC rfl rfl rfl rfl rfl <| qN ?_
  refine zJ rfl (fun h38 => ?_) (fun h38 => ?_)
  ·
   refine zB <| qR rfl <| qA rfl rfl rfl <| qN <| zK ?_
   exact zQ (.inr rfl) zW3 rfl (.of_eq (by simp at h38; rw [← he, hge, List.drop_length, zO4 (zD (by omega : a.length < b.length))]; rfl)) (.int _ _) ⟨rfl, rfl⟩
  ·
   refine zA0 <| zB <| qR rfl <| qA rfl rfl rfl <| qN <| zK ?_
   exact zQ (.inr rfl) zW3 rfl (.of_eq (by simp at h38; rw [← he, hge, List.drop_length, List.drop_eq_nil_of_le (by omega : b.length ≤ a.length)]; rfl)) (.int _ _) ⟨rfl, rfl⟩
theorem jTicks_spec (a b : List Tk) (S : MS) : MCalls Tryz.prog 102 [.lst none 2 (a.map encT), .lst none 2 (b.map encT)] S fun v σ' => v = .int .i64 (byTicksF a b) ∧ σ' = S := by
 refine zU Tryz.func102 rfl Tryz.ntmps102 (zA rfl) ?_
 refine zB <| qR rfl <| qA rfl rfl rfl <| qN <| zB <| qR rfl <| qM rfl rfl rfl <| qM rfl rfl rfl ?_
 refine qX rfl rfl rfl rfl co139 (jCmpFunc_spec a b _) ?_
 refine qA rfl rfl rfl <| qN <| zK ?_
 exact zQ (.inr rfl) Tryz.results102 rfl (.of_eq (rfl)) (.int _ _) ⟨rfl, rfl⟩
theorem cmpString_spec (a b : Bs) (S : MS) : MCalls Tryz.prog 132 [encX a, encX b] S fun v σ' => v = .int .i64 (cmpX a b) ∧ σ' = S := by
 refine zU Tryz.func132 rfl Tryz.ntmps132 (zA rfl) ?_
 refine zB <| qR rfl <| qA rfl rfl rfl <| qN <| zB <| qR rfl <| qM rfl rfl rfl <| qM rfl rfl rfl <| qO rfl <| op_ext rfl rfl rfl (fun g w vs h => run_cmpstr Tryz.func148 (by kernel_rfl) (by kernel_rfl) (by kernel_rfl) (by kernel_rfl) a b g w vs h) rfl ?_
 refine qA rfl rfl rfl <| qN <| zK ?_
 exact zQ (.inr rfl) Tryz.results132 rfl (.of_eq (rfl)) (.int _ _) ⟨rfl, rfl⟩
theorem strCmp_spec (a b : Bs) (S : MS) : MCalls Tryz.prog 94 [encX a, encX b] S fun v σ' => v = .int .i64 (cmpX a b) ∧ σ' = S := by
 refine zU Tryz.func94 rfl Tryz.ntmps94 (zA rfl) ?_
 refine zB <| qR rfl <| qA rfl rfl rfl <| qN <| zB <| qR rfl <| qM rfl rfl rfl <| qM rfl rfl rfl ?_
 refine zL4 rfl (zH1 rfl rfl rfl ⟨_, _, Tryz.func132, by kernel_rfl, rfl⟩ ((cmpString_spec a b _).mono ?_))
 rintro _ _ ⟨rfl, rfl⟩
 refine qA rfl rfl rfl <| qN <| zK ?_
 exact zQ (.inr rfl) Tryz.results94 rfl (.of_eq (rfl)) (.int _ _) ⟨rfl, rfl⟩
theorem cof_none (k : List Tk) (k1 : Int) (i1 : List Sch) (n m : Int) (s : List Bs) (c : List (List Tk)) (w : List Val) (S : MS) : MCalls Tryz.prog 106 [encS (.mk k1 i1), encE encC (k, .mk n m s c w, none)] S fun v σ' => v = encO (some (.mk n m s c w)) ∧ σ' = S := by
 refine zU Tryz.func106 rfl Tryz.ntmps106 (zA rfl) ?_
 refine zB <| qR rfl <| qB rfl rfl rfl rfl rfl <| qB rfl rfl rfl rfl rfl <| qO rfl <| zN0 rfl zm30 rfl rfl <| qA rfl rfl rfl <| qN <| zB <| zB <| qR rfl <| qF rfl rfl rfl fo137_2 <| qL rfl rfl rfl rfl ta128 rfl <| qO rfl <| op_ptr0 rfl Tryz.underlying128 rfl rfl (.inl ⟨rfl, rfl⟩) <| qN <| zW rfl (rfl) <| zB <| qR rfl <| qF rfl rfl rfl fo137_1 <| qL rfl rfl rfl rfl ta128 rfl <| qO rfl <| op_nilCheck rfl rfl rfl ?_
 refine qO rfl <| zH rfl rfl ta30 rfl <| qO rfl <| zH0 rfl rfl rfl rfl sz30 rfl rfl (zA rfl) rfl <| qA rfl rfl rfl <| qN <| zK ?_
 exact zZ0 (.inr rfl) Tryz.results106 rfl rfl ta30 rfl (.refl _) (zJ1 _ (.mk n m s c w)) rfl (.refl _) .iface0 ⟨rfl, rfl⟩
theorem cof_some (k : List Tk) (k1 : Int) (i1 : List Sch) (n m : Int) (s : List Bs) (c : List (List Tk)) (w : List Val) (n2 m2 : Int) (s2 : List Bs) (c2 : List (List Tk)) (w2 : List Val) (o : Option Val) (hb : ∀ S : MS, MCalls Tryz.prog 31 [encS (.mk k1 i1), encV (.mk n m s c w), encV (.mk n2 m2 s2 c2 w2)] S fun v σ' => v = encO o ∧ σ' = S) (S : MS) : MCalls Tryz.prog 106 [encS (.mk k1 i1), encE encC (k, .mk n m s c w, some (.mk n2 m2 s2 c2 w2))] S fun v σ' => v = encO o ∧ σ' = S := by
 obtain ⟨n3, m3, s3, c3, w3, h3⟩ := encO_of o
 have hO : encO o = .tup [encV (.mk n3 m3 s3 c3 w3), errO o] := by rw [encO, h3]
 rw [hO] at hb
 refine zU Tryz.func106 rfl Tryz.ntmps106 (zA rfl) ?_
 refine zB <| qR rfl <| qB rfl rfl rfl rfl rfl <| qB rfl rfl rfl rfl rfl <| qO rfl <| zN0 rfl zm30 rfl rfl <| qA rfl rfl rfl <| qN <| zB <| zB <| qR rfl <| qF rfl rfl rfl fo137_2 <| qL rfl rfl rfl rfl ta128 rfl <| qO rfl <| op_ptrnil rfl Tryz.underlying128 rfl rfl rfl (.inl ⟨rfl, rfl⟩) <| qN <| zL rfl (rfl) <| zA0 <| zB ?_
 refine zU0 [12] [_, S ++ [.cells (encS (.mk k1 i1)).cells, .cells (encE encC (k, .mk n m s c w, some (.mk n2 m2 s2 c2 w2))).cells, .cells (encV (.mk n3 m3 s3 c3 w3)).cells]] mo (by decide) rfl rfl rfl rfl ?_
 refine dO rfl rfl rfl (zD0 rfl rfl rfl ta24 rfl ⟨rfl, rfl⟩) <| dO rfl rfl rfl (zE rfl rfl fo137_1 ⟨rfl, rfl⟩) <| dO rfl rfl rfl (zD0 rfl rfl rfl ta128 rfl ⟨rfl, rfl⟩) <| dO rfl rfl rfl (op_nilCheck rfl rfl rfl ⟨rfl, rfl⟩) <| dO rfl rfl rfl (zH rfl rfl ta30 rfl ⟨rfl, rfl⟩) <| dO rfl rfl rfl (zE rfl rfl fo137_2 ⟨rfl, rfl⟩) <| dO rfl rfl rfl (zD0 rfl rfl rfl ta128 rfl ⟨rfl, rfl⟩) <| dO rfl rfl rfl (op_nilCheck rfl rfl rfl ⟨rfl, rfl⟩) <| dO rfl rfl rfl (zH rfl rfl ta30 rfl ⟨rfl, rfl⟩) <| zS rfl rfl (.cons (zH1 rfl rfl rfl co31 (hb _)) .nil) <| dO rfl rfl rfl (zE0 rfl rfl rfl ⟨rfl, rfl⟩) <| dO rfl rfl rfl (zE0 rfl rfl rfl ⟨rfl, rfl⟩) <| zX0 rfl rfl rfl rfl (zH0 rfl rfl rfl rfl sz30 rfl rfl (zA rfl) rfl ⟨rfl, rfl⟩) <| dO rfl rfl rfl (zB1 rfl rfl ⟨rfl, rfl⟩) <| zL0 <| zK ?_
 exact zZ0 (.inr rfl) Tryz.results106 rfl rfl ta30 rfl (.refl _) (zJ1 _ (.mk n3 m3 s3 c3 w3)) rfl (.refl _) (cl_errO _ _) ⟨hO.symm, rfl⟩
theorem cof_spec (k1 : Int) (i1 : List Sch) (f : Val → Val → Option Val) (e : Ent (List Tk)) (hb : ∀ y, e.2.2 = some y → ∀ S : MS, MCalls Tryz.prog 31 [encS (.mk k1 i1), encV e.2.1, encV y] S fun v σ' => v = encO (f e.2.1 y) ∧ σ' = S) (S : MS) : MCalls Tryz.prog 106 [encS (.mk k1 i1), encE encC e] S fun v σ' => v = encO (ofE f e) ∧ σ' = S := by
 obtain ⟨k, ⟨n, m, s, c, w⟩, o⟩ := e
 cases o with
 | none => exact cof_none k k1 i1 n m s c w S
 | some y =>
  obtain ⟨n2, m2, s2, c2, w2⟩ := y
  exact cof_some k k1 i1 n m s c w n2 m2 s2 c2 w2 _ (hb _ rfl) S
theorem xof_none (k : Bs) (k1 : Int) (i1 : List Sch) (n m : Int) (s : List Bs) (c : List (List Tk)) (w : List Val) (S : MS) : MCalls Tryz.prog 95 [encS (.mk k1 i1), encE encX (k, .mk n m s c w, none)] S fun v σ' => v = encO (some (.mk n m s c w)) ∧ σ' = S := by
 refine zU Tryz.func95 rfl Tryz.ntmps95 (zA rfl) ?_
 refine zB <| qR rfl <| qB rfl rfl rfl rfl rfl <| qB rfl rfl rfl rfl rfl <| qO rfl <| zN0 rfl zm30 rfl rfl <| qA rfl rfl rfl <| qN <| zB <| zB <| qR rfl <| qF rfl rfl rfl fo130_2 <| qL rfl rfl rfl rfl ta128 rfl <| qO rfl <| op_ptr0 rfl Tryz.underlying128 rfl rfl (.inl ⟨rfl, rfl⟩) <| qN <| zW rfl (rfl) <| zB <| qR rfl <| qF rfl rfl rfl fo130_1 <| qL rfl rfl rfl rfl ta128 rfl <| qO rfl <| op_nilCheck rfl rfl rfl ?_
 refine qO rfl <| zH rfl rfl ta30 rfl <| qO rfl <| zH0 rfl rfl rfl rfl sz30 rfl rfl (zA rfl) rfl <| qA rfl rfl rfl <| qN <| zK ?_
 exact zZ0 (.inr rfl) Tryz.results95 rfl rfl ta30 rfl (.refl _) (zJ1 _ (.mk n m s c w)) rfl (.refl _) .iface0 ⟨rfl, rfl⟩
theorem xof_some (k : Bs) (k1 : Int) (i1 : List Sch) (n m : Int) (s : List Bs) (c : List (List Tk)) (w : List Val) (n2 m2 : Int) (s2 : List Bs) (c2 : List (List Tk)) (w2 : List Val) (o : Option Val) (hb : ∀ S : MS, MCalls Tryz.prog 31 [encS (.mk k1 i1), encV (.mk n m s c w), encV (.mk n2 m2 s2 c2 w2)] S fun v σ' => v = encO o ∧ σ' = S) (S : MS) : MCalls Tryz.prog 95 [encS (.mk k1 i1), encE encX (k, .mk n m s c w, some (.mk n2 m2 s2 c2 w2))] S fun v σ' => v = encO o ∧ σ' = S := by
 obtain ⟨n3, m3, s3, c3, w3, h3⟩ := encO_of o
 have hO : encO o = .tup [encV (.mk n3 m3 s3 c3 w3), errO o] := by rw [encO, h3]
 rw [hO] at hb
 refine zU Tryz.func95 rfl Tryz.ntmps95 (zA rfl) ?_
 refine zB <| qR rfl <| qB rfl rfl rfl rfl rfl <| qB rfl rfl rfl rfl rfl <| qO rfl <| zN0 rfl zm30 rfl rfl <| qA rfl rfl rfl <| qN <| zB <| zB <| qR rfl <| qF rfl rfl rfl fo130_2 <| qL rfl rfl rfl rfl ta128 rfl <| qO rfl <| op_ptrnil rfl Tryz.underlying128 rfl rfl rfl (.inl ⟨rfl, rfl⟩) <| qN <| zL rfl (rfl) <| zA0 <| zB ?_
 refine zU0 [12] [_, S ++ [.cells (encS (.mk k1 i1)).cells, .cells (encE encX (k, .mk n m s c w, some (.mk n2 m2 s2 c2 w2))).cells, .cells (encV (.mk n3 m3 s3 c3 w3)).cells]] mo (by decide) rfl rfl rfl rfl ?_
 refine dO rfl rfl rfl (zD0 rfl rfl rfl ta24 rfl ⟨rfl, rfl⟩) <| dO rfl rfl rfl (zE rfl rfl fo130_1 ⟨rfl, rfl⟩) <| dO rfl rfl rfl (zD0 rfl rfl rfl ta128 rfl ⟨rfl, rfl⟩) <| dO rfl rfl rfl (op_nilCheck rfl rfl rfl ⟨rfl, rfl⟩) <| dO rfl rfl rfl (zH rfl rfl ta30 rfl ⟨rfl, rfl⟩) <| dO rfl rfl rfl (zE rfl rfl fo130_2 ⟨rfl, rfl⟩) <| dO rfl rfl rfl (zD0 rfl rfl rfl ta128 rfl ⟨rfl, rfl⟩) <| dO rfl rfl rfl (op_nilCheck rfl rfl rfl ⟨rfl, rfl⟩) <| dO rfl rfl rfl (zH rfl rfl ta30 rfl ⟨rfl, rfl⟩) <| zS rfl rfl (.cons (zH1 rfl rfl rfl co31 (hb _)) .nil) <| dO rfl rfl rfl (zE0 rfl rfl rfl ⟨rfl, rfl⟩) <| dO rfl rfl rfl (zE0 rfl rfl rfl ⟨rfl, rfl⟩) <| zX0 rfl rfl rfl rfl (zH0 rfl rfl rfl rfl sz30 rfl rfl (zA rfl) rfl ⟨rfl, rfl⟩) <| dO rfl rfl rfl (zB1 rfl rfl ⟨rfl, rfl⟩) <| zL0 <| zK ?_
 exact zZ0 (.inr rfl) Tryz.results95 rfl rfl ta30 rfl (.refl _) (zJ1 _ (.mk n3 m3 s3 c3 w3)) rfl (.refl _) (cl_errO _ _) ⟨hO.symm, rfl⟩
theorem xof_spec (k1 : Int) (i1 : List Sch) (f : Val → Val → Option Val) (e : Ent (Bs)) (hb : ∀ y, e.2.2 = some y → ∀ S : MS, MCalls Tryz.prog 31 [encS (.mk k1 i1), encV e.2.1, encV y] S fun v σ' => v = encO (f e.2.1 y) ∧ σ' = S) (S : MS) : MCalls Tryz.prog 95 [encS (.mk k1 i1), encE encX e] S fun v σ' => v = encO (ofE f e) ∧ σ' = S := by
 obtain ⟨k, ⟨n, m, s, c, w⟩, o⟩ := e
 cases o with
 | none => exact xof_none k k1 i1 n m s c w S
 | some y =>
  obtain ⟨n2, m2, s2, c2, w2⟩ := y
  exact xof_some k k1 i1 n m s c w n2 m2 s2 c2 w2 _ (hb _ rfl) S
theorem eIndex_spec (S : MS) (l : List (Ent (List Tk))) (p : Ent (List Tk) → Bool) (kf : FuncId) (first caps : List MV) (hco : CallOk Tryz.prog kf) (hp : ∀ x ∈ l, ∀ X : MS, MCalls Tryz.prog kf (first ++ [encE encC x] ++ caps) (S ++ X) fun v σ' => v = .bool (p x) ∧ σ' = S ++ X) : MCalls Tryz.prog 142 [.lst none 3 (l.map (encE encC)), .fn (.func kf) first caps] S fun v σ' => v = .int .i64 (findGo p 0 l) ∧ σ' = S := by
 refine zU Tryz.func142 rfl Tryz.ntmps142 (zA rfl) ?_
 refine zN2 (t := 0) rfl fun hlen => ?_
 rw [zC] at hlen
 refine zB <| qR rfl <| qA rfl rfl rfl <| qN <| zB <| zB <| qR rfl <| qM rfl rfl rfl <| qE rfl rfl zK0 rfl <| qM rfl rfl rfl <| qN <| zB0 ?_
 refine zV1 (α := Nat) [(0, _), (1, _), (7, _)] (fun i => [(8, .int .i64 (i : Int))]) (fun i => []) (fun i => i ≤ l.length ∧ findGo p i (l.drop i) = findGo p 0 l) (fun i => l.length - i) (0) (.keep rfl (.keep rfl (.keep rfl (.nil)))) (.keep rfl (.nil)) (⟨by omega, rfl⟩) (rfl) ?_
 rintro i ⟨hi, he⟩
 refine zB <| qR rfl <| qC rfl rfl rfl rfl rfl <| qN <| zB ?_
 refine zJ rfl (fun h9 => ?_) (fun h9 => ?_)
 ·
  have hlt : i < l.length := by simpa using h9
  obtain ⟨x, hs⟩ : ∃ q_, l[i]? = some q_ := ⟨_, zD hlt⟩
  refine zA0 <| zB <| zB0 <| zB <| qR rfl <| qM rfl rfl rfl <| qA rfl rfl rfl <| qN <| zB <| qR rfl <| qM rfl rfl rfl <| qM rfl rfl rfl <| qM rfl rfl rfl <| qO rfl <| zG rfl zK0 sz137 (by decide) rfl rfl rfl (zV0 hs) ?_
  refine qO rfl <| zH rfl rfl ta137 rfl ?_
  refine zL4 rfl (zH1 rfl rfl rfl hco ((hp _ (zF0 hs) _).mono ?_))
  rintro _ _ ⟨rfl, rfl⟩
  refine qN ?_
  refine zJ rfl (fun h16 => ?_) (fun h16 => ?_)
  ·
   refine zB <| qR rfl <| qM rfl rfl rfl <| qA rfl rfl rfl <| qN <| zK ?_
   exact zQ (.inr rfl) Tryz.results142 rfl (.of_eq (by rw [← he, find_at hs, h16]; rfl)) (.int _ _) ⟨rfl, rfl⟩
  ·
   refine zA0 <| qR rfl <| qO rfl <| zY0 rfl rfl rfl rfl <| qM rfl rfl rfl <| qN ?_
   refine ⟨i + 1, by omega, ⟨by omega, by rw [← he, find_at hs, h16]; rfl⟩, rfl, (.keep rfl (.keep rfl (.keep rfl (.nil)))), (.eq rfl (zM1 hlt hlen) (.nil))⟩
 ·
  have hge : i = l.length := by simp at h9; omega
  refine zN1 <| zB <| qR rfl <| qA rfl rfl rfl <| qN <| zK ?_
  exact zQ (.inr rfl) Tryz.results142 rfl (.of_eq (by rw [← he, hge, List.drop_length]; rfl)) (.int _ _) ⟨rfl, rfl⟩
theorem eContains_spec (S : MS) (l : List (Ent (List Tk))) (p : Ent (List Tk) → Bool) (kf : FuncId) (first caps : List MV) (hco : CallOk Tryz.prog kf) (hp : ∀ x ∈ l, ∀ X : MS, MCalls Tryz.prog kf (first ++ [encE encC x] ++ caps) (S ++ X) fun v σ' => v = .bool (p x) ∧ σ' = S ++ X) : MCalls Tryz.prog 103 [.lst none 3 (l.map (encE encC)), .fn (.func kf) first caps] S fun v σ' => v = .bool (l.any p) ∧ σ' = S := by
 refine zU Tryz.func103 rfl Tryz.ntmps103 (zA rfl) ?_
 refine zB <| qR rfl <| qA rfl rfl rfl <| qN <| zB <| qR rfl <| qM rfl rfl rfl <| qM rfl rfl rfl ?_
 refine qX rfl rfl rfl rfl co142 (eIndex_spec (S ++ []) l p kf first caps hco (by rw [List.append_nil]; exact hp)) ?_
 refine qC rfl rfl rfl rfl rfl <| qA rfl rfl rfl <| qN <| zK ?_
 exact zQ (.inr rfl) Tryz.results103 rfl (.of_eq (by rw [find_any p 0 l])) (.bool _) ⟨rfl, rfl⟩
theorem causes1_spec (e o : Ent (List Tk)) (h : e.1.length + o.1.length ≤ 1000000) (id : Nat) (S : MS) (hS : S[id]? = some (.cells (encE encC e).cells)) : MCalls Tryz.prog 104 [encE encC o, .ref id 0] S fun v σ' => v = .bool (decide (cmpF e.1 o.1 = -1)) ∧ σ' = S := by
 refine zU Tryz.func104 rfl Tryz.ntmps104 (zA rfl) ?_
 refine zB <| qR rfl <| qB rfl rfl rfl rfl rfl <| qA rfl rfl rfl <| qN <| zB <| qR rfl <| qF rfl rfl rfl zJ6 <| qO rfl <| op_load_far rfl rfl hS ta60 rfl <| qF rfl rfl rfl zJ6 <| qL rfl rfl rfl rfl ta60 rfl ?_
 refine qX rfl rfl rfl rfl co105 (clkCmp_spec e.1 o.1 h _) ?_
 refine qC rfl rfl rfl rfl rfl <| qA rfl rfl rfl <| qN <| zK ?_
 exact zQ (.inr rfl) Tryz.results104 rfl (.of_eq (rfl)) (.bool _) ⟨rfl, rfl⟩
theorem isLarge_spec (n m : Int) (s : List Bs) (c : List (List Tk)) (w : List Val) (S : MS) : MCalls Tryz.prog 56 [encV (.mk n m s c w)] S fun v σ' => v = .bool (largeF (.mk n m s c w)) ∧ σ' = S := by
 refine zU Tryz.func56 rfl Tryz.ntmps56 (zA rfl) ?_
 refine zB <| qR rfl <| qB rfl rfl rfl rfl rfl <| qA rfl rfl rfl <| qN <| zB <| qR rfl <| qF rfl rfl rfl zR1 <| qL rfl rfl rfl rfl ta26 rfl <| qE rfl rfl zX rfl <| qF rfl rfl rfl zI1 <| qL rfl rfl rfl rfl ta27 rfl <| qE rfl rfl zM rfl <| qF rfl rfl rfl zF1 <| qL rfl rfl rfl rfl ta28 rfl <| qE rfl rfl zO rfl ?_
 rw [zR, zC, zC]
 refine qO rfl <| op_max3 rfl rfl rfl rfl rfl <| qC rfl rfl rfl rfl rfl <| qM rfl rfl rfl ?_
 refine zG0 (fun h14 => ?_) (fun h14 => ?_)
 ·
  refine qT rfl rfl rfl rfl <| qT rfl rfl rfl rfl <| qT rfl rfl rfl rfl <| qP rfl rfl rfl rfl <| qA rfl rfl rfl <| qN <| zK ?_
  exact zQ (.inr rfl) Tryz.results56 rfl (.of_eq (by rw [zJ5]; congr 1; rw [zF]; first | (simp_all; done) | (simp_all; omega))) (.bool _) ⟨rfl, rfl⟩
 ·
  refine qF rfl rfl rfl zI1 <| qL rfl rfl rfl rfl ta27 rfl <| qE rfl rfl zM rfl <| qC rfl rfl rfl rfl rfl <| qM rfl rfl rfl ?_
  refine zG0 (fun h19 => ?_) (fun h19 => ?_)
  ·
   obtain ⟨c0, rfl⟩ := one_of (by rw [zC] at h19; simp at h19; omega : c.length = 1)
   refine qF rfl rfl rfl zI1 <| qL rfl rfl rfl rfl ta27 rfl <| qO rfl <| zG rfl zM sz60 (by decide) rfl rfl rfl (show _ = some (encC c0) from rfl) ?_
   refine qO rfl <| zH rfl rfl ta60 rfl <| qE rfl rfl zP rfl <| qC rfl rfl rfl rfl rfl <| qP rfl rfl rfl rfl <| qP rfl rfl rfl rfl <| qA rfl rfl rfl <| qN <| zK ?_
   exact zQ (.inr rfl) Tryz.results56 rfl (.of_eq (by rw [zJ5]; congr 1; rw [zF]; first | (simp_all; done) | (simp_all; omega))) (.bool _) ⟨rfl, rfl⟩
  ·
   refine qT rfl rfl rfl rfl <| qS rfl <| qS rfl <| qP rfl rfl rfl rfl <| qP rfl rfl rfl rfl <| qA rfl rfl rfl <| qN <| zK ?_
   exact zQ (.inr rfl) Tryz.results56 rfl (.of_eq (by rw [zJ5]; congr 1; rw [zF]; first | (simp_all; done) | (simp_all; omega))) (.bool _) ⟨rfl, rfl⟩
theorem _root_.zU4 : type_of% @isLarge_spec := @isLarge_spec
theorem later_spec (n1 m1 : Int) (s1 : List Bs) (c1 : List (List Tk)) (w1 : List Val) (n2 m2 : Int) (s2 : List Bs) (c2 : List (List Tk)) (w2 : List Val) (S : MS) : MCalls Tryz.prog 53 [encV (.mk n1 m1 s1 c1 w1), encV (.mk n2 m2 s2 c2 w2)] S fun v σ' => v = encV (laterF (.mk n1 m1 s1 c1 w1) (.mk n2 m2 s2 c2 w2)) ∧ σ' = S := by
 refine zU Tryz.func53 rfl Tryz.ntmps53 (zA rfl) ?_
 refine zB <| qR rfl <| qB rfl rfl rfl rfl rfl <| qB rfl rfl rfl rfl rfl <| qO rfl <| zN0 rfl zm30 rfl rfl <| qN <| zB <| zB ?_
 rcases s1 with _ | ⟨x, s1⟩ <;> rcases s2 with _ | ⟨y, s2⟩
 ·
  refine zU0 [] [_] mo (by decide) rfl rfl rfl rfl ?_
  refine dO rfl rfl rfl (zE rfl rfl zR1 ⟨rfl, rfl⟩) <| dO rfl rfl rfl (zD0 rfl rfl rfl ta26 rfl ⟨rfl, rfl⟩) <| dO rfl rfl rfl (zT1 rfl zX rfl ⟨rfl, rfl⟩) <| dO rfl rfl rfl (zE2 rfl rfl rfl (eq_nil) ⟨rfl, rfl⟩) <| dO rfl rfl rfl (zV rfl rfl ⟨rfl, rfl⟩) <| dS rfl rfl <| dS rfl rfl <| dS rfl rfl <| dS rfl rfl <| dS rfl rfl <| dS rfl rfl <| dS rfl rfl <| dS rfl rfl <| dS rfl rfl <| dS rfl rfl <| dS rfl rfl <| dS rfl rfl <| dS rfl rfl <| dS rfl rfl <| dS rfl rfl <| dS rfl rfl <| dS rfl rfl <| dS rfl rfl <| dS rfl rfl <| dS rfl rfl <| dS rfl rfl <| dS rfl rfl <| dS rfl rfl <| dS rfl rfl <| dS rfl rfl ?_
  refine dS rfl rfl <| dS rfl rfl <| dS rfl rfl <| dO rfl rfl rfl (zE1 rfl rfl rfl ⟨rfl, rfl⟩) <| zL0 <| zW rfl (rfl) <| zB <| qR rfl <| qL rfl rfl rfl rfl ta30 rfl <| qO rfl <| zH0 rfl rfl rfl rfl sz30 rfl rfl (zA rfl) rfl <| qN <| zK ?_
  exact zI2 (.inr rfl) Tryz.results53 rfl rfl ta30 rfl (.refl _) (zJ1 _ (.mk n2 m2 [] c2 w2)) ⟨by rw [show laterF (.mk n1 m1 [] c1 w1) (.mk n2 m2 [] c2 w2) = .mk n2 m2 [] c2 w2 from if_pos (.inl rfl)]; rfl, rfl⟩
 ·
  refine zU0 [] [_] mo (by decide) rfl rfl rfl rfl ?_
  refine dO rfl rfl rfl (zE rfl rfl zR1 ⟨rfl, rfl⟩) <| dO rfl rfl rfl (zD0 rfl rfl rfl ta26 rfl ⟨rfl, rfl⟩) <| dO rfl rfl rfl (zT1 rfl zX rfl ⟨rfl, rfl⟩) <| dO rfl rfl rfl (zE2 rfl rfl rfl (eq_nil) ⟨rfl, rfl⟩) <| dO rfl rfl rfl (zV rfl rfl ⟨rfl, rfl⟩) <| dS rfl rfl <| dS rfl rfl <| dS rfl rfl <| dS rfl rfl <| dS rfl rfl <| dS rfl rfl <| dS rfl rfl <| dS rfl rfl <| dS rfl rfl <| dS rfl rfl <| dS rfl rfl <| dS rfl rfl <| dS rfl rfl <| dS rfl rfl <| dS rfl rfl <| dS rfl rfl <| dS rfl rfl <| dS rfl rfl <| dS rfl rfl <| dS rfl rfl <| dS rfl rfl <| dS rfl rfl <| dS rfl rfl <| dS rfl rfl <| dS rfl rfl ?_
  refine dS rfl rfl <| dS rfl rfl <| dS rfl rfl <| dO rfl rfl rfl (zE1 rfl rfl rfl ⟨rfl, rfl⟩) <| zL0 <| zW rfl (rfl) <| zB <| qR rfl <| qL rfl rfl rfl rfl ta30 rfl <| qO rfl <| zH0 rfl rfl rfl rfl sz30 rfl rfl (zA rfl) rfl <| qN <| zK ?_
  exact zI2 (.inr rfl) Tryz.results53 rfl rfl ta30 rfl (.refl _) (zJ1 _ (.mk n2 m2 (y :: s2) c2 w2)) ⟨by rw [show laterF (.mk n1 m1 [] c1 w1) (.mk n2 m2 (y :: s2) c2 w2) = .mk n2 m2 (y :: s2) c2 w2 from if_pos (.inl rfl)]; rfl, rfl⟩
 ·
  refine zU0 [] [_] mo (by decide) rfl rfl rfl rfl ?_
  refine dO rfl rfl rfl (zE rfl rfl zR1 ⟨rfl, rfl⟩) <| dO rfl rfl rfl (zD0 rfl rfl rfl ta26 rfl ⟨rfl, rfl⟩) <| dO rfl rfl rfl (zT1 rfl zX rfl ⟨rfl, rfl⟩) <| dO rfl rfl rfl (zE2 rfl rfl rfl (zU5) ⟨rfl, rfl⟩) <| dO rfl rfl rfl (zV rfl rfl ⟨rfl, rfl⟩) <| dO rfl rfl rfl (zE rfl rfl zR1 ⟨rfl, rfl⟩) <| dO rfl rfl rfl (zD0 rfl rfl rfl ta26 rfl ⟨rfl, rfl⟩) <| dO rfl rfl rfl (zT1 rfl zX rfl ⟨rfl, rfl⟩) <| dO rfl rfl rfl (zE2 rfl rfl rfl (gt_nil) ⟨rfl, rfl⟩) <| dO rfl rfl rfl (zV rfl rfl ⟨rfl, rfl⟩) <| dS rfl rfl <| dS rfl rfl <| dS rfl rfl <| dS rfl rfl <| dS rfl rfl <| dS rfl rfl <| dS rfl rfl <| dS rfl rfl <| dS rfl rfl <| dS rfl rfl <| dS rfl rfl <| dS rfl rfl <| dS rfl rfl <| dS rfl rfl <| dS rfl rfl <| dS rfl rfl <| dS rfl rfl <| dS rfl rfl <| dS rfl rfl <| dS rfl rfl ?_
  refine dS rfl rfl <| dS rfl rfl <| dO rfl rfl rfl (zE1 rfl rfl rfl ⟨rfl, rfl⟩) <| dO rfl rfl rfl (zE1 rfl rfl rfl ⟨rfl, rfl⟩) <| zL0 <| zL rfl (rfl) <| zA0 <| zB <| qR rfl <| qL rfl rfl rfl rfl ta30 rfl <| qO rfl <| zH0 rfl rfl rfl rfl sz30 rfl rfl (zA rfl) rfl <| qN <| zK ?_
  exact zI2 (.inr rfl) Tryz.results53 rfl rfl ta30 rfl (.refl _) (zJ1 _ (.mk n1 m1 (x :: s1) c1 w1)) ⟨by rw [show laterF (.mk n1 m1 (x :: s1) c1 w1) (.mk n2 m2 [] c2 w2) = .mk n1 m1 (x :: s1) c1 w1 from if_neg (by simp [Val.sv])]; rfl, rfl⟩
 ·
  refine zU0 [] [_] mo (by decide) rfl rfl rfl rfl ?_
  refine dO rfl rfl rfl (zE rfl rfl zR1 ⟨rfl, rfl⟩) <| dO rfl rfl rfl (zD0 rfl rfl rfl ta26 rfl ⟨rfl, rfl⟩) <| dO rfl rfl rfl (zT1 rfl zX rfl ⟨rfl, rfl⟩) <| dO rfl rfl rfl (zE2 rfl rfl rfl (zU5) ⟨rfl, rfl⟩) <| dO rfl rfl rfl (zV rfl rfl ⟨rfl, rfl⟩) <| dO rfl rfl rfl (zE rfl rfl zR1 ⟨rfl, rfl⟩) <| dO rfl rfl rfl (zD0 rfl rfl rfl ta26 rfl ⟨rfl, rfl⟩) <| dO rfl rfl rfl (zT1 rfl zX rfl ⟨rfl, rfl⟩) <| dO rfl rfl rfl (zE2 rfl rfl rfl (gt_cons) ⟨rfl, rfl⟩) <| dO rfl rfl rfl (zV rfl rfl ⟨rfl, rfl⟩) <| dO rfl rfl rfl (zE rfl rfl zB3 ⟨rfl, rfl⟩) <| dO rfl rfl rfl (zD0 rfl rfl rfl ta25 rfl ⟨rfl, rfl⟩) <| dO rfl rfl rfl (zE rfl rfl zB3 ⟨rfl, rfl⟩) <| dO rfl rfl rfl (zD0 rfl rfl rfl ta25 rfl ⟨rfl, rfl⟩) <| zS rfl rfl (.cons (zH1 rfl rfl rfl co97 (compareu_spec n1 n2 _)) .nil) <| dO rfl rfl rfl (zE rfl rfl zQ4 ⟨rfl, rfl⟩) <| dO rfl rfl rfl (zD0 rfl rfl rfl ta25 rfl ⟨rfl, rfl⟩) <| dO rfl rfl rfl (zE rfl rfl zQ4 ⟨rfl, rfl⟩) <| dO rfl rfl rfl (zD0 rfl rfl rfl ta25 rfl ⟨rfl, rfl⟩) <| zS rfl rfl (.cons (zH1 rfl rfl rfl co97 (compareu_spec m1 m2 _)) .nil) <| dO rfl rfl rfl (zE rfl rfl zR1 ⟨rfl, rfl⟩) <| dO rfl rfl rfl (zD0 rfl rfl rfl ta26 rfl ⟨rfl, rfl⟩) <| dO rfl rfl rfl (zG rfl zX sz9 (by decide) rfl rfl rfl (show _ = some (encX x) from rfl) ⟨rfl, rfl⟩) ?_
  refine dO rfl rfl rfl (zH rfl rfl ta9 rfl ⟨rfl, rfl⟩) <| dO rfl rfl rfl (zE rfl rfl zR1 ⟨rfl, rfl⟩) <| dO rfl rfl rfl (zD0 rfl rfl rfl ta26 rfl ⟨rfl, rfl⟩) <| dO rfl rfl rfl (zG rfl zX sz9 (by decide) rfl rfl rfl (show _ = some (encX y) from rfl) ⟨rfl, rfl⟩) ?_
  refine dO rfl rfl rfl (zH rfl rfl ta9 rfl ⟨rfl, rfl⟩) <| zS rfl rfl (.cons (zH1 rfl rfl rfl co94 (strCmp_spec x y _)) .nil) <| dO rfl rfl rfl (zC1 rfl zF6 el3 rfl rfl (by decide) (by decide) rfl rfl ⟨rfl, rfl⟩) ?_
  refine zS rfl rfl (.cons (zH1 rfl rfl rfl co96 (cmpOr_spec [cmpI n1 n2, cmpI m1 m2, cmpX x y] _)) .nil) <| dO rfl rfl rfl (zE2 rfl rfl rfl rfl ⟨rfl, rfl⟩) <| dO rfl rfl rfl (zE1 rfl rfl rfl ⟨rfl, rfl⟩) <| dO rfl rfl rfl (zE1 rfl rfl rfl ⟨rfl, rfl⟩) <| zL0 ?_
  refine zJ rfl (fun h38 => ?_) (fun h38 => ?_)
  ·
   refine zB <| qR rfl <| qL rfl rfl rfl rfl ta30 rfl <| qO rfl <| zH0 rfl rfl rfl rfl sz30 rfl rfl (zA rfl) rfl <| qN <| zK ?_
   exact zI2 (.inr rfl) Tryz.results53 rfl rfl ta30 rfl (.refl _) (zJ1 _ (.mk n2 m2 (y :: s2) c2 w2)) ⟨by rw [show laterF (.mk n1 m1 (x :: s1) c1 w1) (.mk n2 m2 (y :: s2) c2 w2) = .mk n2 m2 (y :: s2) c2 w2 from if_pos (.inr ⟨by simp [Val.sv], by rw [or_three] at h38; simpa [laterC, Val.nv, Val.mv, Val.sv] using h38⟩)]; rfl, rfl⟩
  ·
   refine zA0 <| zB <| qR rfl <| qL rfl rfl rfl rfl ta30 rfl <| qO rfl <| zH0 rfl rfl rfl rfl sz30 rfl rfl (zA rfl) rfl <| qN <| zK ?_
   exact zI2 (.inr rfl) Tryz.results53 rfl rfl ta30 rfl (.refl _) (zJ1 _ (.mk n1 m1 (x :: s1) c1 w1)) ⟨by rw [show laterF (.mk n1 m1 (x :: s1) c1 w1) (.mk n2 m2 (y :: s2) c2 w2) = .mk n1 m1 (x :: s1) c1 w1 from if_neg (by rw [or_three] at h38; simpa [laterC, Val.nv, Val.mv, Val.sv] using h38)]; rfl, rfl⟩
theorem clocks_spec (n1 m1 : Int) (s1 : List Bs) (c1 : List (List Tk)) (w1 : List Val) (n2 m2 : Int) (s2 : List Bs) (c2 : List (List Tk)) (w2 : List Val) (hl : ∀ x ∈ c1, ∀ y ∈ c2, x.length + y.length ≤ 1000000) (S : MS) : MCalls Tryz.prog 54 [encV (.mk n1 m1 s1 c1 w1), encV (.mk n2 m2 s2 c2 w2)] S fun v σ' => v = encV (clocksF (.mk n1 m1 s1 c1 w1) (.mk n2 m2 s2 c2 w2)) ∧ σ' = S := by
 refine zU Tryz.func54 rfl Tryz.ntmps54 (zA rfl) ?_
 refine zB <| qR rfl <| qB rfl rfl rfl rfl rfl <| qB rfl rfl rfl rfl rfl <| qO rfl <| zN0 rfl zm30 rfl rfl <| qN <| zB <| zB0 <| zB ?_
 rcases c1 with _ | ⟨x, c1⟩ <;> rcases c2 with _ | ⟨y, c2⟩
 ·
  refine qR rfl <| qF rfl rfl rfl zI1 <| qL rfl rfl rfl rfl ta27 rfl <| qE rfl rfl zM rfl <| qC rfl rfl rfl rfl (eq_nil) <| qA rfl rfl rfl <| qN <| zW rfl (rfl) <| zB <| qR rfl <| qL rfl rfl rfl rfl ta30 rfl <| qO rfl <| zH0 rfl rfl rfl rfl sz30 rfl rfl (zA rfl) rfl <| qN <| zK ?_
  exact zI2 (.inr rfl) Tryz.results54 rfl rfl ta30 rfl (.refl _) (zJ1 _ (.mk n2 m2 s2 [] w2)) ⟨rfl, rfl⟩
 ·
  refine qR rfl <| qF rfl rfl rfl zI1 <| qL rfl rfl rfl rfl ta27 rfl <| qE rfl rfl zM rfl <| qC rfl rfl rfl rfl (eq_nil) <| qA rfl rfl rfl <| qN <| zW rfl (rfl) <| zB <| qR rfl <| qL rfl rfl rfl rfl ta30 rfl <| qO rfl <| zH0 rfl rfl rfl rfl sz30 rfl rfl (zA rfl) rfl <| qN <| zK ?_
  exact zI2 (.inr rfl) Tryz.results54 rfl rfl ta30 rfl (.refl _) (zJ1 _ (.mk n2 m2 s2 (y :: c2) w2)) ⟨rfl, rfl⟩
 ·
  refine qR rfl <| qF rfl rfl rfl zI1 <| qL rfl rfl rfl rfl ta27 rfl <| qE rfl rfl zM rfl <| qC rfl rfl rfl rfl (zU5) <| qA rfl rfl rfl <| qN <| zL rfl (rfl) <| zB <| qR rfl <| qF rfl rfl rfl zI1 <| qL rfl rfl rfl rfl ta27 rfl <| qE rfl rfl zM rfl <| qC rfl rfl rfl rfl (eq_nil) <| qA rfl rfl rfl <| qN <| zW rfl (rfl) <| zB <| qR rfl <| qL rfl rfl rfl rfl ta30 rfl ?_
  refine qO rfl <| zH0 rfl rfl rfl rfl sz30 rfl rfl (zA rfl) rfl <| qN <| zK ?_
  exact zI2 (.inr rfl) Tryz.results54 rfl rfl ta30 rfl (.refl _) (zJ1 _ (.mk n1 m1 s1 (x :: c1) w1)) ⟨rfl, rfl⟩
 ·
  refine qR rfl <| qF rfl rfl rfl zI1 <| qL rfl rfl rfl rfl ta27 rfl <| qE rfl rfl zM rfl <| qC rfl rfl rfl rfl (zU5) <| qA rfl rfl rfl <| qN <| zL rfl (rfl) <| zB <| qR rfl <| qF rfl rfl rfl zI1 <| qL rfl rfl rfl rfl ta27 rfl <| qE rfl rfl zM rfl <| qC rfl rfl rfl rfl (zU5) <| qA rfl rfl rfl <| qN <| zL rfl (rfl) <| zA0 <| zB ?_
  refine zU0 [11] [_, S ++ [.cells (encV (.mk n1 m1 s1 (x :: c1) w1)).cells, .cells (encV (.mk n2 m2 s2 (y :: c2) w2)).cells, .cells [.int .u64 0, .int .u64 0, .lst0, .lst none 1 [encC (joinF x y)], .lst0]]] mo (by decide) rfl rfl rfl rfl ?_
  refine dO rfl rfl rfl (zE rfl rfl zI1 ⟨rfl, rfl⟩) <| dO rfl rfl rfl (zD0 rfl rfl rfl ta27 rfl ⟨rfl, rfl⟩) <| dO rfl rfl rfl (zG rfl zM sz60 (by decide) rfl rfl rfl (show _ = some (encC x) from rfl) ⟨rfl, rfl⟩) ?_
  refine dO rfl rfl rfl (zH rfl rfl ta60 rfl ⟨rfl, rfl⟩) <| dO rfl rfl rfl (zE rfl rfl zI1 ⟨rfl, rfl⟩) <| dO rfl rfl rfl (zD0 rfl rfl rfl ta27 rfl ⟨rfl, rfl⟩) <| dO rfl rfl rfl (zG rfl zM sz60 (by decide) rfl rfl rfl (show _ = some (encC y) from rfl) ⟨rfl, rfl⟩) ?_
  refine dO rfl rfl rfl (zH rfl rfl ta60 rfl ⟨rfl, rfl⟩) <| zS rfl rfl (.cons (zH1 rfl rfl rfl co98 (clkJoin_spec x y (hl x (by simp) y (by simp)) _)) .nil) ?_
  refine dO rfl rfl rfl (zC1 rfl zM el60 rfl rfl (by decide) (by decide) rfl rfl ⟨rfl, rfl⟩) ?_
  refine dO rfl rfl rfl (zW1 rfl zS0 zm30 (.cons zI1 sz27 rfl rfl (zA rfl) .nil) (by kernel_rfl) ⟨rfl, rfl⟩) ?_
  refine zX0 rfl rfl rfl rfl (zH0 rfl rfl rfl rfl sz30 rfl rfl (zA rfl) rfl ⟨rfl, rfl⟩) <| zL0 <| zK ?_
  exact zI2 (.inr rfl) Tryz.results54 rfl rfl ta30 rfl (.agg (.cons (.refl _) (.cons (.refl _) (.cons (.nil 1) (.cons (.refl _) (.cons (.nil 5) .nil)))))) (zJ1 _ (.mk 0 0 [] [joinF x y] [])) ⟨rfl, rfl⟩
theorem capF_f {v : Val} (h : largeF v = false) : capF (some v) = some v := by simp [capF, h]
noncomputable def isLV (v : Val) : Bool := isVF (.mk 6 []) v
theorem lv_form {v : Val} (h : isLV v = true) : v = noV ∨ ∃ n m t, v = .mk n m [t] [] [] ∧ (n ≠ 0 ∨ m ≠ 0 ∨ t ≠ []) ∧ t.length ≤ 16 := by
  obtain ⟨n, m, s, c, w⟩ := v
  unfold isLV at h
  rw [zO1 6] at h
  simp [bareF, numsK, textsK, clocksK, valuesK, Val.nv, Val.mv, Val.sv, Val.cv, Val.vv, isLastF] at h
  match s with
  | [] =>
    simp [isLastF] at h
    refine .inl ?_
    obtain ⟨⟨⟨⟨h1, h2⟩, _⟩, _⟩, h3, h4⟩ := h
    subst h1 h2 h3 h4
    rfl
  | [t] =>
    simp [isLastF] at h
    obtain ⟨⟨⟨⟨h1, h2⟩, _⟩, _⟩, h3, h4⟩ := h
    subst h1 h2
    exact .inr ⟨n, m, t, rfl, by rcases h4 with (h4 | h4) | h4 <;> simp [h4], h3⟩
  | _ :: _ :: _ => simp [isLastF] at h
theorem both_lv (a b : Val) (ha : isLV a = true) (hb : isLV b = true) : bothF (.mk 6 []) a b = some (laterF a b) := by
  rw [zK2, show bothB 6 (bothL []) a b = some (laterF a b) from rfl]
  refine capF_f ?_
  have h : ∀ v, isLV v = true → largeF v = false := by
    intro v hv
    rcases lv_form hv with rfl | ⟨n, m, t, rfl, _, _⟩
    · unfold noV; rw [zJ5]; simp
    · rw [zJ5]; simp
  unfold laterF
  split
  · exact h b hb
  · exact h a ha
def LT3 (n m : Int) (t : Bs) (n2 m2 : Int) (t2 : Bs) : Prop := n < n2 ∨ (n = n2 ∧ (m < m2 ∨ (m = m2 ∧ ltB t t2)))
theorem laterC_cases (n m n2 m2 : Int) (t t2 : Bs) (s s2 : List Bs) (c c2 : List (List Tk)) (w w2 : List Val) : laterC (.mk n m (t :: s) c w) (.mk n2 m2 (t2 :: s2) c2 w2) < 0 ↔ LT3 n m t n2 m2 t2 := by
  unfold laterC LT3
  simp only [Val.nv, Val.mv, Val.sv, List.headD_cons, cmpI]
  rw [← cmpX_lt]
  repeat' split
  all_goals omega
theorem laterF_yes {n m n2 m2 : Int} {t t2 : Bs} (s s2 : List Bs) (c c2 : List (List Tk)) (w w2 : List Val) (h : LT3 n m t n2 m2 t2) : laterF (.mk n m (t :: s) c w) (.mk n2 m2 (t2 :: s2) c2 w2) = .mk n2 m2 (t2 :: s2) c2 w2 := if_pos (.inr ⟨by simp [Val.sv], (laterC_cases ..).2 h⟩)
theorem _root_.zB4 : type_of% @laterF_yes := @laterF_yes
theorem laterF_not {n m n2 m2 : Int} {t t2 : Bs} (s s2 : List Bs) (c c2 : List (List Tk)) (w w2 : List Val) (h : ¬ LT3 n m t n2 m2 t2) : laterF (.mk n m (t :: s) c w) (.mk n2 m2 (t2 :: s2) c2 w2) = .mk n m (t :: s) c w := if_neg (fun h2 => h2.elim (fun h3 => by simp [Val.sv] at h3) fun h3 => h ((laterC_cases ..).1 h3.2))
theorem _root_.zC4 : type_of% @laterF_not := @laterF_not
theorem lt3_tri (n m : Int) (t : Bs) (n2 m2 : Int) (t2 : Bs) : LT3 n m t n2 m2 t2 ∨ (n = n2 ∧ m = m2 ∧ t = t2) ∨ LT3 n2 m2 t2 n m t := by
  unfold LT3
  rcases Int.lt_trichotomy n n2 with h | h | h
  · exact .inl (.inl h)
  · rcases Int.lt_trichotomy m m2 with h2 | h2 | h2
    · exact .inl (.inr ⟨h, .inl h2⟩)
    · rcases ltB_total t t2 with h3 | h3 | h3
      · exact .inl (.inr ⟨h, .inr ⟨h2, h3⟩⟩)
      · exact .inr (.inl ⟨h, h2, h3⟩)
      · exact .inr (.inr (.inr ⟨h.symm, .inr ⟨h2.symm, h3⟩⟩))
    · exact .inr (.inr (.inr ⟨h.symm, .inl h2⟩))
  · exact .inr (.inr (.inl h))
theorem lt3_asymm {n m : Int} {t : Bs} {n2 m2 : Int} {t2 : Bs} (h : LT3 n m t n2 m2 t2) : ¬ LT3 n2 m2 t2 n m t := by
  unfold LT3 at *
  rintro (h2 | ⟨_, h2 | ⟨_, h2⟩⟩)
  · omega
  · omega
  · rcases h with h | ⟨_, h | ⟨_, h⟩⟩
    · omega
    · omega
    · exact ltB_asymm h h2
theorem laterF_comm {a b : Val} (ha : isLV a = true) (hb : isLV b = true) : laterF a b = laterF b a := by
  rcases lv_form ha with rfl | ⟨n, m, t, rfl, _, _⟩ <;> rcases lv_form hb with rfl | ⟨n2, m2, t2, rfl, _, _⟩
  · rfl
  · unfold laterF; simp [noV, Val.sv]
  · unfold laterF; simp [noV, Val.sv]
  · rcases lt3_tri n m t n2 m2 t2 with h | ⟨rfl, rfl, rfl⟩ | h
    · rw [zB4 _ _ _ _ _ _ h, zC4 _ _ _ _ _ _ (lt3_asymm h)]
    · rfl
    · rw [zB4 _ _ _ _ _ _ h, zC4 _ _ _ _ _ _ (lt3_asymm h)]
theorem laterF_or (a b : Val) : laterF a b = a ∨ laterF a b = b := by
  unfold laterF
  split
  · exact .inr rfl
  · exact .inl rfl
theorem lt3_trans {n m : Int} {t : Bs} {n2 m2 : Int} {t2 : Bs} {n3 m3 : Int} {t3 : Bs} (h : LT3 n m t n2 m2 t2) (h2 : LT3 n2 m2 t2 n3 m3 t3) : LT3 n m t n3 m3 t3 := by
  unfold LT3 at *
  rcases h with h | ⟨e, h | ⟨e2, h⟩⟩ <;> rcases h2 with h2 | ⟨f, h2 | ⟨f2, h2⟩⟩
  · exact .inl (by omega)
  · exact .inl (by omega)
  · exact .inl (by omega)
  · exact .inl (by omega)
  · exact .inr ⟨by omega, .inl (by omega)⟩
  · exact .inr ⟨by omega, .inl (by omega)⟩
  · exact .inl (by omega)
  · exact .inr ⟨by omega, .inl (by omega)⟩
  · exact .inr ⟨by omega, .inr ⟨by omega, zN6 h h2⟩⟩
theorem later_no (b : Val) : laterF noV b = b := if_pos (.inl rfl)
theorem later_no_r {a : Val} (ha : isLV a = true) : laterF a noV = a := by
  rw [laterF_comm ha (by unfold isLV noV; rw [zO1 6]; rfl), later_no]
theorem laterF_assoc {a b c : Val} (ha : isLV a = true) (hb : isLV b = true) (hc : isLV c = true) : laterF (laterF a b) c = laterF a (laterF b c) := by
  rcases lv_form ha with rfl | ⟨n, m, t, rfl, _, _⟩
  · rw [later_no, later_no]
  · rcases lv_form hb with rfl | ⟨n2, m2, t2, rfl, _, _⟩
    · rw [later_no_r ha, later_no]
    · rcases lv_form hc with rfl | ⟨n3, m3, t3, rfl, _, _⟩
      · rw [later_no_r hb]
        rcases laterF_or (.mk n m [t] [] []) (.mk n2 m2 [t2] [] []) with e | e <;> rw [e]
        · exact later_no_r ha
        · exact later_no_r hb
      · by_cases h1 : LT3 n m t n2 m2 t2 <;> by_cases h2 : LT3 n2 m2 t2 n3 m3 t3
        · rw [zB4 _ _ _ _ _ _ h1, zB4 _ _ _ _ _ _ h2, zB4 _ _ _ _ _ _ (lt3_trans h1 h2)]
        · rw [zB4 _ _ _ _ _ _ h1, zC4 _ _ _ _ _ _ h2, zB4 _ _ _ _ _ _ h1]
        · rw [zC4 _ _ _ _ _ _ h1, zB4 _ _ _ _ _ _ h2]
        · rw [zC4 _ _ _ _ _ _ h1, zC4 _ _ _ _ _ _ h2, zC4 _ _ _ _ _ _ h1]
          refine zC4 _ _ _ _ _ _ fun h3 => ?_
          rcases lt3_tri n2 m2 t2 n3 m3 t3 with h4 | ⟨rfl, rfl, rfl⟩ | h4
          · exact h2 h4
          · exact h1 h3
          · exact h1 (lt3_trans h3 h4)
theorem stJ_fl {cmp : List Tk → List Tk → Int} {a b : List (REnt (List Tk))} {S : MS} (A : MS) {x y z : MObj} {j : Nat} : stJ cmp a b (S ++ (A ++ [x, y, z])) (S ++ A).length ((S ++ A).length + 1) j = S ++ (A ++ [.cells [.lst none 3 ((restE cmp a b j).1.map (encR encC))], .cells [.lst none 3 ((restE cmp a b j).2.map (encR encC))], z]) := by
 unfold stJ
 rw [← zC0, List.set_append_right _ _ (Nat.le_refl _), Nat.sub_self, List.set_append_right _ _ (by simp), ← zC0]
 simp
theorem get_fl {S : MS} (A : MS) {B : MS} (k : Nat) {o : MObj} (h : B[k]? = some o) : (S ++ (A ++ B))[(S ++ A).length + k]? = some o := by
 rw [← zC0, getElem?_own]
 exact h
theorem cl_outC {acc : List (List Tk × Val)} {t u n : Nat} (ht : t < n) (hu : u < n) : (MObj.cells [.int .u64 0, .int .u64 0, .lst0, .lst (some t) 1 (acc.map fun e => encC e.1), .lst (some u) 5 (acc.map fun e => encV e.2)]).cl n := by
 intro x hx
 simp only [List.mem_cons, List.not_mem_nil, or_false] at hx
 rcases hx with rfl | rfl | rfl | rfl | rfl
 ·exact .int _ _
 ·exact .int _ _
 ·exact .lst0
 ·exact zR5 ht (fun e : List Tk × Val => cl_encC n e.1) (fun e => .inr rfl)
 ·exact zR5 hu (fun e : List Tk × Val => zJ1 n e.2) (fun e => by cases e.2; exact .inl rfl)
theorem one_encE (e : Ent (List Tk)) : (encE encC e).cells.all MV.one = true := by obtain ⟨k, v, o⟩ := e; cases o <;> rfl
theorem filt_snoc {α : Type} {l : List α} {p : α → Bool} {i : Nat} {a : α} (h : l[i]? = some a) : (l.take (i + 1)).filter p = (l.take i).filter p ++ (if p a then [a] else []) := by
 rw [List.take_add_one, h, Option.toList_some, List.filter_append]
 congr 1
 simp [List.filter_cons]
theorem goE_snoc {κ : Type} {f : Val → Val → Option Val} {a : List (Ent κ)} {x : List (κ × Val)} {e : Ent κ} {v : Val} (h : goE f a = some x) (he : ofE f e = some v) : goE f (a ++ [e]) = some (x ++ [(e.1, v)]) := by
 rw [goE_append, h]
 simp [goE, he]
theorem goE_bad {κ : Type} {f : Val → Val → Option Val} : ∀ {a : List (Ent κ)} {e : Ent κ}, e ∈ a → ofE f e = none → goE f a = none
 | x :: a, e, h, he => by
  rw [goE]
  rcases List.mem_cons.1 h with rfl | h
  ·rw [he]
  ·rw [goE_bad h he]
   cases ofE f x <;> rfl
theorem filt_len {α : Type} (l : List α) (p : α → Bool) (i : Nat) : ((l.take i).filter p).length ≤ i := Nat.le_trans (List.length_filter_le _ _) (by rw [List.length_take]; omega)
theorem zip_mem1 {α β : Type} {a : List α} {b : List β} {x : α} {y : β} (h : (x, y) ∈ a.zip b) : x ∈ a := (List.of_mem_zip h).1
theorem zip_mem2 {α β : Type} {a : List α} {b : List β} {x : α} {y : β} (h : (x, y) ∈ a.zip b) : y ∈ b := (List.of_mem_zip h).2
theorem _root_.zI0 : type_of% @Tryz.underlying33 := @Tryz.underlying33
theorem causes_spec (k k1 : Int) (i1 rest : List Sch) (f : Val → Val → Option Val) (n1 m1 : Int) (s1 : List Bs) (c1 : List (List Tk)) (w1 : List Val) (n2 m2 : Int) (s2 : List Bs) (c2 : List (List Tk)) (w2 : List Val) (hl1 : c1.length = w1.length) (hl2 : c2.length = w2.length) (h1 : c1.length ≤ 40) (h2 : c2.length ≤ 40) (hk1 : ∀ x ∈ c1, x.length ≤ 1000) (hk2 : ∀ x ∈ c2, x.length ≤ 1000) (hb : ∀ x ∈ w1, ∀ y ∈ w2, ∀ S : MS, MCalls Tryz.prog 31 [encS (.mk k1 i1), encV x, encV y] S fun v σ' => v = encO (f x y) ∧ σ' = S) (S : MS) : MCalls Tryz.prog 55 [encS (.mk k (.mk k1 i1 :: rest)), encV (.mk n1 m1 s1 c1 w1), encV (.mk n2 m2 s2 c2 w2)] S fun v σ' => v = encO (causesF f (.mk n1 m1 s1 c1 w1) (.mk n2 m2 s2 c2 w2)) ∧ σ' = S := by
 refine zU Tryz.func55 rfl Tryz.ntmps55 (zA rfl) ?_
 generalize hl : mergedC (.mk n1 m1 s1 c1 w1) (.mk n2 m2 s2 c2 w2) = l
 have hll : l.length ≤ 80 := by rw [← hl]; have := mergeE_len byTicksF (c1.zip w1) (c2.zip w2); simp only [mergedC, entC, Val.cv, Val.vv, List.length_zip] at *; omega
 have hlen : l.length ≤ maxLen := by simp only [maxLen]; omega
 have hmem : ∀ e ∈ l, e.1.length ≤ 1000 ∧ ∀ y, e.2.2 = some y → e.2.1 ∈ w1 ∧ y ∈ w2 := fun e h => by
  obtain ⟨p, q⟩ := mergeE_mem _ _ _ e (by rw [← hl] at h; exact h)
  refine ⟨p.elim (fun h => hk1 _ (zip_mem1 h)) (fun h => hk2 _ (zip_mem1 h)), fun y hy => ?_⟩
  obtain ⟨q1, k, q2⟩ := q y hy
  exact ⟨zip_mem2 q1, zip_mem2 q2⟩
 refine zB <| qR rfl <| qB rfl rfl rfl rfl rfl <| qB rfl rfl rfl rfl rfl <| qB rfl rfl rfl rfl rfl <| qO rfl <| zN0 rfl zm30 rfl rfl <| qA rfl rfl rfl <| qN <| zB ?_
 refine zU0 [10, 11] [_, S ++ [.cells (encS (.mk k (.mk k1 i1 :: rest))).cells, .cells (encV (.mk n1 m1 s1 c1 w1)).cells, .cells (encV (.mk n2 m2 s2 c2 w2)).cells, .cells [.int .u64 0, .int .u64 0, .lst0, .lst0, .lst0], .cells [.lst none 3 ((c1.zip w1).map (encR encC))], .cells [.lst none 3 ((c2.zip w2).map (encR encC))], .cells [.fn (.func 102) [] []]], S ++ [.cells (encS (.mk k (.mk k1 i1 :: rest))).cells, .cells (encV (.mk n1 m1 s1 c1 w1)).cells, .cells (encV (.mk n2 m2 s2 c2 w2)).cells, .cells [.int .u64 0, .int .u64 0, .lst0, .lst0, .lst0], .cells [.lst none 3 ((restE byTicksF (c1.zip w1) (c2.zip w2) (mergedC (.mk n1 m1 s1 c1 w1) (.mk n2 m2 s2 c2 w2)).length).1.map (encR encC))], .cells [.lst none 3 ((restE byTicksF (c1.zip w1) (c2.zip w2) (mergedC (.mk n1 m1 s1 c1 w1) (.mk n2 m2 s2 c2 w2)).length).2.map (encR encC))], .cells [.fn (.func 102) [] []]]] mo (by decide) rfl rfl rfl rfl ?_
 refine zS rfl rfl (.cons (zE rfl rfl zI1 ⟨rfl, rfl⟩) (.cons (zE rfl rfl zI1 ⟨rfl, rfl⟩) (.cons (zE rfl rfl zI1 ⟨rfl, rfl⟩) (.nil)))) <| zS rfl rfl (.cons (zD0 rfl rfl rfl ta27 rfl ⟨rfl, rfl⟩) (.cons (zD0 rfl rfl rfl ta27 rfl ⟨rfl, rfl⟩) (.cons (zD0 rfl rfl rfl ta27 rfl ⟨rfl, rfl⟩) (.nil)))) <| zS rfl rfl (.cons (zE rfl rfl zF1 ⟨rfl, rfl⟩) (.cons (zE rfl rfl zF1 ⟨rfl, rfl⟩) (.cons (zE rfl rfl zF1 ⟨rfl, rfl⟩) (.nil)))) <| zS rfl rfl (.cons (zD0 rfl rfl rfl ta28 rfl ⟨rfl, rfl⟩) (.cons (zD0 rfl rfl rfl ta28 rfl ⟨rfl, rfl⟩) (.cons (zD0 rfl rfl rfl ta28 rfl ⟨rfl, rfl⟩) (.nil)))) <| zS rfl rfl (.cons (zH1 rfl rfl rfl co101 (crow_spec c1 w1 hl1 (by omega) _)) .nil) ?_
 refine zS rfl rfl (.cons (zE rfl rfl zI1 ⟨rfl, rfl⟩) (.cons (zE rfl rfl zI1 ⟨rfl, rfl⟩) (.cons (zE rfl rfl zI1 ⟨rfl, rfl⟩) (.nil)))) <| zS rfl rfl (.cons (zD0 rfl rfl rfl ta27 rfl ⟨rfl, rfl⟩) (.cons (zD0 rfl rfl rfl ta27 rfl ⟨rfl, rfl⟩) (.cons (zD0 rfl rfl rfl ta27 rfl ⟨rfl, rfl⟩) (.nil)))) <| zS rfl rfl (.cons (zE rfl rfl zF1 ⟨rfl, rfl⟩) (.cons (zE rfl rfl zF1 ⟨rfl, rfl⟩) (.cons (zE rfl rfl zF1 ⟨rfl, rfl⟩) (.nil)))) <| zS rfl rfl (.cons (zD0 rfl rfl rfl ta28 rfl ⟨rfl, rfl⟩) (.cons (zD0 rfl rfl rfl ta28 rfl ⟨rfl, rfl⟩) (.cons (zD0 rfl rfl rfl ta28 rfl ⟨rfl, rfl⟩) (.nil)))) <| zS rfl rfl (.cons (zH1 rfl rfl rfl co101 (crow_spec c2 w2 hl2 (by omega) _)) .nil) ?_
 refine zX0 rfl rfl rfl rfl (zH1 rfl rfl rfl co100 ((cmerged_spec (c1.zip w1) (c2.zip w2) _ _).mono fun _ _ h => ⟨h.1, h.2.trans (zC0 ..)⟩)) ?_
 refine zX0 rfl rfl rfl rfl (zH1 rfl rfl rfl co99 ((collect_spec (c1.zip w1) (c2.zip w2) (by rw [List.length_zip, List.length_zip]; omega) 102 byTicksF co102 (fun a b S => jTicks_spec a b S) _ _ _ (by omega) (by omega) (by omega) _ (get_fl [_, _, _, _] 0 rfl) (get_fl [_, _, _, _] 1 rfl) (get_fl [_, _, _, _] 2 rfl)).mono fun _ _ h => ⟨h.1.trans (congrArg (fun z => MV.lst none 3 (z.map (encE encC))) hl), h.2.trans (stJ_fl [_, _, _, _])⟩)) ?_
 refine dO rfl rfl rfl (zB1 rfl rfl ⟨rfl, rfl⟩) <| zL0 <| zB <| qR rfl <| qO rfl <| zN0 rfl zm30 rfl rfl <| qN <| zB <| zB <| qR rfl <| qM rfl rfl rfl <| qE rfl rfl zK0 rfl <| qM rfl rfl rfl <| qN <| zB0 <| zW5 7 3 60 1 rfl rfl (Nat.le_refl _) rfl rfl <| zW5 7 4 30 5 rfl rfl (Nat.le_refl _) rfl rfl ?_
 refine zR4 (α := Nat × List (List Tk × Val)) [(3, _), (6, _), (8, _), (9, _), (26, _), (27, _)] (fun x => [(28, .int .i64 (x.1 : Int))]) (fun x => [.cells (encS (.mk k (.mk k1 i1 :: rest))).cells, .cells (encV (.mk n1 m1 s1 c1 w1)).cells, .cells (encV (.mk n2 m2 s2 c2 w2)).cells, .cells [.int .u64 0, .int .u64 0, .lst0, .lst0, .lst0], .cells [.lst none 3 ((restE byTicksF (c1.zip w1) (c2.zip w2) (mergedC (.mk n1 m1 s1 c1 w1) (.mk n2 m2 s2 c2 w2)).length).1.map (encR encC))], .cells [.lst none 3 ((restE byTicksF (c1.zip w1) (c2.zip w2) (mergedC (.mk n1 m1 s1 c1 w1) (.mk n2 m2 s2 c2 w2)).length).2.map (encR encC))], .cells [.fn (.func 102) [] []], .cells [.int .u64 0, .int .u64 0, .lst0, .lst (some (S.length + 8)) 1 ((x.2.map fun e => encC e.1)), .lst (some (S.length + 9)) 5 ((x.2.map fun e => encV e.2))], .row 60 1 x.2.length, .row 30 5 x.2.length]) (fun x => x.1 ≤ l.length ∧ goE f ((l.take x.1).filter (fun e => !seenE l e)) = some x.2) (fun x => l.length - x.1) (⟨0, []⟩) (Nat.le_refl _) (.keep rfl (.keep rfl (.keep rfl (.keep rfl (.keep rfl (.keep rfl (.nil))))))) (.keep rfl (.nil)) (⟨by simp, rfl⟩) (rfl) ?_
 rintro ⟨i, acc⟩ ⟨hi, he⟩
 dsimp only at hi he ⊢
 have hal : acc.length ≤ 1000 := by have h1 := goE_len he; have h2 := filt_len l (fun e => !seenE l e) i; omega
 refine zB <| qR rfl <| qC rfl rfl rfl rfl rfl <| qN <| zB ?_
 refine zJ rfl (fun h29 => ?_) (fun h29 => ?_)
 ·
  have hlt : i < l.length := by simpa using h29
  obtain ⟨e, hs⟩ : ∃ q_, l[i]? = some q_ := ⟨_, zD hlt⟩
  refine zA0 <| zB <| zB0 <| zB <| qR rfl <| qO rfl <| zG rfl zK0 sz137 (by decide) rfl rfl rfl (zV0 hs) ?_
  refine qO rfl <| zH rfl rfl ta137 rfl <| qO rfl <| zN0 rfl zm137 rfl rfl <| qO rfl <| zH0 rfl rfl rfl rfl sz137 rfl (one_encE e) (zA rfl) rfl <| qN <| zB <| zB <| qR rfl <| qM rfl rfl rfl <| qO rfl <| zP2 rfl rfl rfl ?_
  refine qX rfl rfl rfl rfl co103 (eContains_spec _ l (fun o => decide (cmpF e.1 o.1 = -1)) _ [] [.ref (S.length + 10) 0] co104 (fun x hx X => causes1_spec e x (by have h1 := (hmem e (zF0 hs)).1; have h2 := (hmem x hx).1; omega) _ _ (zI4 (k := 10) rfl))) ?_
  refine qN ?_
  refine zJ rfl (fun h34 => ?_) (fun h34 => ?_)
  ·
   refine zN1 <| qR rfl <| qO rfl <| zY0 rfl rfl rfl rfl <| qM rfl rfl rfl <| qN ?_
   refine ⟨⟨i + 1, acc⟩, _, by dsimp only; omega, ⟨by dsimp only; omega, by dsimp only; rw [filt_snoc hs, if_neg (by simp [seenE, show (l.any fun o => decide (cmpF e.1 o.1 = -1)) = true from h34]), List.append_nil]; exact he⟩, rfl, LTo.refl _ _, (.old rfl rfl (.old rfl rfl (.old rfl rfl (.old rfl rfl (.old rfl rfl (.old rfl rfl (.nil))))))), (.new' rfl (zM1 hlt hlen) (.int _ _) (.nil))⟩
  ·
   refine zA0 <| zB ?_
   have hof := fun S => cof_spec k1 i1 f e (fun y hy S => hb _ ((hmem e (zF0 hs)).2 y hy).1 y ((hmem e (zF0 hs)).2 y hy).2 S) S
   rcases hf : ofE f e with _ | ⟨⟨n3, m3, s3, c3, w3⟩⟩ <;> rw [hf] at hof
   ·
    refine zU0 [9, 10] [_, S ++ [.cells (encS (.mk k (.mk k1 i1 :: rest))).cells, .cells (encV (.mk n1 m1 s1 c1 w1)).cells, .cells (encV (.mk n2 m2 s2 c2 w2)).cells, .cells [.int .u64 0, .int .u64 0, .lst0, .lst0, .lst0], .cells [.lst none 3 ((restE byTicksF (c1.zip w1) (c2.zip w2) (mergedC (.mk n1 m1 s1 c1 w1) (.mk n2 m2 s2 c2 w2)).length).1.map (encR encC))], .cells [.lst none 3 ((restE byTicksF (c1.zip w1) (c2.zip w2) (mergedC (.mk n1 m1 s1 c1 w1) (.mk n2 m2 s2 c2 w2)).length).2.map (encR encC))], .cells [.fn (.func 102) [] []], .cells [.int .u64 0, .int .u64 0, .lst0, .lst (some (S.length + 8)) 1 ((acc.map fun e => encC e.1)), .lst (some (S.length + 9)) 5 ((acc.map fun e => encV e.2))], .row 60 1 acc.length, .row 30 5 acc.length, .cells (encE encC e).cells, .cells [.int .u64 0, .int .u64 0, .lst0, .lst0, .lst0]], S ++ [.cells (encS (.mk k (.mk k1 i1 :: rest))).cells, .cells (encV (.mk n1 m1 s1 c1 w1)).cells, .cells (encV (.mk n2 m2 s2 c2 w2)).cells, .cells [.int .u64 0, .int .u64 0, .lst0, .lst0, .lst0], .cells [.lst none 3 ((restE byTicksF (c1.zip w1) (c2.zip w2) (mergedC (.mk n1 m1 s1 c1 w1) (.mk n2 m2 s2 c2 w2)).length).1.map (encR encC))], .cells [.lst none 3 ((restE byTicksF (c1.zip w1) (c2.zip w2) (mergedC (.mk n1 m1 s1 c1 w1) (.mk n2 m2 s2 c2 w2)).length).2.map (encR encC))], .cells [.fn (.func 102) [] []], .cells [.int .u64 0, .int .u64 0, .lst0, .lst (some (S.length + 8)) 1 ((acc.map fun e => encC e.1)), .lst (some (S.length + 9)) 5 ((acc.map fun e => encV e.2))], .row 60 1 acc.length, .row 30 5 acc.length, .cells (encE encC e).cells, .cells (encV noV).cells]] mo (by decide) rfl rfl rfl rfl ?_
    refine zS rfl rfl (.cons (zE rfl rfl zU2 ⟨rfl, rfl⟩) (.cons (zE rfl rfl zU2 ⟨rfl, rfl⟩) (.nil))) <| zS rfl rfl (.cons (zD0 rfl rfl rfl ta22 rfl ⟨rfl, rfl⟩) (.cons (zD0 rfl rfl rfl ta22 rfl ⟨rfl, rfl⟩) (.nil))) <| zS rfl rfl (.cons (zG rfl zR0 sz24 (by decide) rfl rfl rfl (show _ = some (encS (.mk k1 i1)) from rfl) ⟨rfl, rfl⟩) (.cons (zG rfl zR0 sz24 (by decide) rfl rfl rfl (show _ = some (encS (.mk k1 i1)) from rfl) ⟨rfl, rfl⟩) (.nil))) ?_
    refine zS rfl rfl (.cons (zH rfl rfl ta24 rfl ⟨rfl, rfl⟩) (.cons (zH rfl rfl ta24 rfl ⟨rfl, rfl⟩) (.nil))) <| zS rfl rfl (.cons (zD0 rfl rfl rfl ta137 rfl ⟨rfl, rfl⟩) (.cons (zD0 rfl rfl rfl ta137 rfl ⟨rfl, rfl⟩) (.nil))) <| zS rfl rfl (.cons (zH1 rfl rfl rfl co106 (hof _)) (.cons (zH1 rfl rfl rfl co106 (hof _)) (.nil))) <| zS rfl rfl (.cons (zV rfl rfl ⟨rfl, rfl⟩) (.cons (zV rfl rfl ⟨rfl, rfl⟩) (.nil))) <| zS rfl rfl (.cons (zE0 rfl rfl rfl ⟨rfl, rfl⟩) (.cons (zE0 rfl rfl rfl ⟨rfl, rfl⟩) (.nil))) <| zS rfl rfl (.cons (zE0 rfl rfl rfl ⟨rfl, rfl⟩) (.cons (zE0 rfl rfl rfl ⟨rfl, rfl⟩) (.cons (zE0 rfl rfl rfl ⟨rfl, rfl⟩) (.nil)))) <| zX0 rfl rfl rfl rfl (zN0 rfl zm30 rfl rfl ⟨rfl, rfl⟩) <| zX0 rfl rfl rfl rfl (zH0 rfl rfl rfl rfl sz30 rfl rfl (zA rfl) rfl ⟨rfl, rfl⟩) <| dO rfl rfl rfl (zB1 rfl rfl ⟨rfl, rfl⟩) <| zL0 <| zB <| zB <| qR rfl <| qM rfl rfl rfl <| qO rfl <| zY2 rfl zI0 rfl rfl (.inr ⟨rfl, rfl⟩) <| qN <| zW rfl (rfl) <| zB <| qR rfl <| qO rfl <| zW1 rfl zS0 zm30 .nil (by kernel_rfl) ?_
    refine qM rfl rfl rfl <| qO rfl <| zH0 rfl rfl rfl rfl sz30 rfl rfl (zA rfl) rfl <| qA rfl rfl rfl <| qN <| zK ?_
    exact zZ0 (.inr rfl) Tryz.results55 rfl rfl ta30 rfl (.agg (.cons (.refl _) (.cons (.refl _) (.cons (.nil 1) (.cons (.nil 1) (.cons (.nil 5) .nil)))))) (zJ1 _ (noV)) rfl (.refl _) (.iface _ _ (.int _ _)) ⟨by rw [show causesF f (.mk n1 m1 s1 c1 w1) (.mk n2 m2 s2 c2 w2) = none from by rw [causesF, hl, goE_bad (List.mem_filter.2 ⟨zF0 hs, by simpa [seenE] using h34⟩) hf]; rfl]; rfl, rfl⟩
   ·
    refine zU0 [9, 10] [_, S ++ [.cells (encS (.mk k (.mk k1 i1 :: rest))).cells, .cells (encV (.mk n1 m1 s1 c1 w1)).cells, .cells (encV (.mk n2 m2 s2 c2 w2)).cells, .cells [.int .u64 0, .int .u64 0, .lst0, .lst0, .lst0], .cells [.lst none 3 ((restE byTicksF (c1.zip w1) (c2.zip w2) (mergedC (.mk n1 m1 s1 c1 w1) (.mk n2 m2 s2 c2 w2)).length).1.map (encR encC))], .cells [.lst none 3 ((restE byTicksF (c1.zip w1) (c2.zip w2) (mergedC (.mk n1 m1 s1 c1 w1) (.mk n2 m2 s2 c2 w2)).length).2.map (encR encC))], .cells [.fn (.func 102) [] []], .cells [.int .u64 0, .int .u64 0, .lst0, .lst (some (S.length + 8)) 1 ((acc.map fun e => encC e.1)), .lst (some (S.length + 9)) 5 ((acc.map fun e => encV e.2))], .row 60 1 acc.length, .row 30 5 acc.length, .cells (encE encC e).cells, .cells [.int .u64 0, .int .u64 0, .lst0, .lst0, .lst0]], S ++ [.cells (encS (.mk k (.mk k1 i1 :: rest))).cells, .cells (encV (.mk n1 m1 s1 c1 w1)).cells, .cells (encV (.mk n2 m2 s2 c2 w2)).cells, .cells [.int .u64 0, .int .u64 0, .lst0, .lst0, .lst0], .cells [.lst none 3 ((restE byTicksF (c1.zip w1) (c2.zip w2) (mergedC (.mk n1 m1 s1 c1 w1) (.mk n2 m2 s2 c2 w2)).length).1.map (encR encC))], .cells [.lst none 3 ((restE byTicksF (c1.zip w1) (c2.zip w2) (mergedC (.mk n1 m1 s1 c1 w1) (.mk n2 m2 s2 c2 w2)).length).2.map (encR encC))], .cells [.fn (.func 102) [] []], .cells [.int .u64 0, .int .u64 0, .lst0, .lst (some (S.length + 8)) 1 ((acc.map fun e => encC e.1)), .lst (some (S.length + 9)) 5 ((acc.map fun e => encV e.2))], .row 60 1 acc.length, .row 30 5 acc.length, .cells (encE encC e).cells, .cells (encV (.mk n3 m3 s3 c3 w3)).cells]] mo (by decide) rfl rfl rfl rfl ?_
    refine zS rfl rfl (.cons (zE rfl rfl zU2 ⟨rfl, rfl⟩) (.cons (zE rfl rfl zU2 ⟨rfl, rfl⟩) (.nil))) <| zS rfl rfl (.cons (zD0 rfl rfl rfl ta22 rfl ⟨rfl, rfl⟩) (.cons (zD0 rfl rfl rfl ta22 rfl ⟨rfl, rfl⟩) (.nil))) <| zS rfl rfl (.cons (zG rfl zR0 sz24 (by decide) rfl rfl rfl (show _ = some (encS (.mk k1 i1)) from rfl) ⟨rfl, rfl⟩) (.cons (zG rfl zR0 sz24 (by decide) rfl rfl rfl (show _ = some (encS (.mk k1 i1)) from rfl) ⟨rfl, rfl⟩) (.nil))) ?_
    refine zS rfl rfl (.cons (zH rfl rfl ta24 rfl ⟨rfl, rfl⟩) (.cons (zH rfl rfl ta24 rfl ⟨rfl, rfl⟩) (.nil))) <| zS rfl rfl (.cons (zD0 rfl rfl rfl ta137 rfl ⟨rfl, rfl⟩) (.cons (zD0 rfl rfl rfl ta137 rfl ⟨rfl, rfl⟩) (.nil))) <| zS rfl rfl (.cons (zH1 rfl rfl rfl co106 (hof _)) (.cons (zH1 rfl rfl rfl co106 (hof _)) (.nil))) <| zS rfl rfl (.cons (zV rfl rfl ⟨rfl, rfl⟩) (.cons (zV rfl rfl ⟨rfl, rfl⟩) (.nil))) <| zS rfl rfl (.cons (zE0 rfl rfl rfl ⟨rfl, rfl⟩) (.cons (zE0 rfl rfl rfl ⟨rfl, rfl⟩) (.nil))) <| zS rfl rfl (.cons (zE0 rfl rfl rfl ⟨rfl, rfl⟩) (.cons (zE0 rfl rfl rfl ⟨rfl, rfl⟩) (.cons (zE0 rfl rfl rfl ⟨rfl, rfl⟩) (.nil)))) <| zX0 rfl rfl rfl rfl (zN0 rfl zm30 rfl rfl ⟨rfl, rfl⟩) <| zX0 rfl rfl rfl rfl (zH0 rfl rfl rfl rfl sz30 rfl rfl (zA rfl) rfl ⟨rfl, rfl⟩) <| dO rfl rfl rfl (zB1 rfl rfl ⟨rfl, rfl⟩) <| zL0 <| zB <| zB <| qR rfl <| qM rfl rfl rfl <| qO rfl <| zS3 rfl zI0 rfl rfl (.inr ⟨rfl, rfl⟩) <| qN <| zL rfl (rfl) <| zA0 ?_
    refine zU0 [5, 10, 12, 14] [_, S ++ [.cells (encS (.mk k (.mk k1 i1 :: rest))).cells, .cells (encV (.mk n1 m1 s1 c1 w1)).cells, .cells (encV (.mk n2 m2 s2 c2 w2)).cells, .cells [.int .u64 0, .int .u64 0, .lst0, .lst0, .lst0], .cells [.lst none 3 ((restE byTicksF (c1.zip w1) (c2.zip w2) (mergedC (.mk n1 m1 s1 c1 w1) (.mk n2 m2 s2 c2 w2)).length).1.map (encR encC))], .cells [.lst none 3 ((restE byTicksF (c1.zip w1) (c2.zip w2) (mergedC (.mk n1 m1 s1 c1 w1) (.mk n2 m2 s2 c2 w2)).length).2.map (encR encC))], .cells [.fn (.func 102) [] []], .cells [.int .u64 0, .int .u64 0, .lst0, .lst (some (S.length + 8)) 1 ((acc.map fun e => encC e.1)), .lst (some (S.length + 9)) 5 ((acc.map fun e => encV e.2))], .row 60 1 (acc.length + 1), .row 30 5 acc.length, .cells (encE encC e).cells, .cells (encV (.mk n3 m3 s3 c3 w3)).cells], S ++ [.cells (encS (.mk k (.mk k1 i1 :: rest))).cells, .cells (encV (.mk n1 m1 s1 c1 w1)).cells, .cells (encV (.mk n2 m2 s2 c2 w2)).cells, .cells [.int .u64 0, .int .u64 0, .lst0, .lst0, .lst0], .cells [.lst none 3 ((restE byTicksF (c1.zip w1) (c2.zip w2) (mergedC (.mk n1 m1 s1 c1 w1) (.mk n2 m2 s2 c2 w2)).length).1.map (encR encC))], .cells [.lst none 3 ((restE byTicksF (c1.zip w1) (c2.zip w2) (mergedC (.mk n1 m1 s1 c1 w1) (.mk n2 m2 s2 c2 w2)).length).2.map (encR encC))], .cells [.fn (.func 102) [] []], .cells [.int .u64 0, .int .u64 0, .lst0, .lst (some (S.length + 8)) 1 ((acc.map fun e => encC e.1)), .lst (some (S.length + 9)) 5 ((acc.map fun e => encV e.2))], .row 60 1 (acc.length + 1), .row 30 5 (acc.length + 1), .cells (encE encC e).cells, .cells (encV (.mk n3 m3 s3 c3 w3)).cells], S ++ [.cells (encS (.mk k (.mk k1 i1 :: rest))).cells, .cells (encV (.mk n1 m1 s1 c1 w1)).cells, .cells (encV (.mk n2 m2 s2 c2 w2)).cells, .cells [.int .u64 0, .int .u64 0, .lst0, .lst0, .lst0], .cells [.lst none 3 ((restE byTicksF (c1.zip w1) (c2.zip w2) (mergedC (.mk n1 m1 s1 c1 w1) (.mk n2 m2 s2 c2 w2)).length).1.map (encR encC))], .cells [.lst none 3 ((restE byTicksF (c1.zip w1) (c2.zip w2) (mergedC (.mk n1 m1 s1 c1 w1) (.mk n2 m2 s2 c2 w2)).length).2.map (encR encC))], .cells [.fn (.func 102) [] []], .cells [.int .u64 0, .int .u64 0, .lst0, .lst (some (S.length + 8)) 1 (((acc.map fun e => encC e.1) ++ [encC e.1])), .lst (some (S.length + 9)) 5 ((acc.map fun e => encV e.2))], .row 60 1 (acc.length + 1), .row 30 5 (acc.length + 1), .cells (encE encC e).cells, .cells (encV (.mk n3 m3 s3 c3 w3)).cells], S ++ [.cells (encS (.mk k (.mk k1 i1 :: rest))).cells, .cells (encV (.mk n1 m1 s1 c1 w1)).cells, .cells (encV (.mk n2 m2 s2 c2 w2)).cells, .cells [.int .u64 0, .int .u64 0, .lst0, .lst0, .lst0], .cells [.lst none 3 ((restE byTicksF (c1.zip w1) (c2.zip w2) (mergedC (.mk n1 m1 s1 c1 w1) (.mk n2 m2 s2 c2 w2)).length).1.map (encR encC))], .cells [.lst none 3 ((restE byTicksF (c1.zip w1) (c2.zip w2) (mergedC (.mk n1 m1 s1 c1 w1) (.mk n2 m2 s2 c2 w2)).length).2.map (encR encC))], .cells [.fn (.func 102) [] []], .cells [.int .u64 0, .int .u64 0, .lst0, .lst (some (S.length + 8)) 1 (((acc.map fun e => encC e.1) ++ [encC e.1])), .lst (some (S.length + 9)) 5 (((acc.map fun e => encV e.2) ++ [encV (.mk n3 m3 s3 c3 w3)]))], .row 60 1 (acc.length + 1), .row 30 5 (acc.length + 1), .cells (encE encC e).cells, .cells (encV (.mk n3 m3 s3 c3 w3)).cells]] mo (by decide) rfl rfl rfl rfl ?_
    refine zS rfl rfl (.cons (zE rfl rfl zI1 ⟨rfl, rfl⟩) (.cons (zE rfl rfl zI1 ⟨rfl, rfl⟩) (.cons (zE rfl rfl zI1 ⟨rfl, rfl⟩) (.nil)))) <| dO rfl rfl rfl (zD0 rfl rfl rfl ta27 rfl ⟨rfl, rfl⟩) <| zS rfl rfl (.cons (zE rfl rfl zJ6 ⟨rfl, rfl⟩) (.cons (zE rfl rfl zJ6 ⟨rfl, rfl⟩) (.cons (zE rfl rfl zJ6 ⟨rfl, rfl⟩) (.nil)))) <| zS rfl rfl (.cons (zD0 rfl rfl rfl ta60 rfl ⟨rfl, rfl⟩) (.cons (zD0 rfl rfl rfl ta60 rfl ⟨rfl, rfl⟩) (.cons (zD0 rfl rfl rfl ta60 rfl ⟨rfl, rfl⟩) (.nil)))) <| dO rfl rfl rfl (zC1 rfl zM el60 rfl rfl (by decide) (by decide) rfl rfl ⟨rfl, rfl⟩) ?_
    refine zX0 rfl rfl rfl rfl (zC2 rfl zM el60 rfl rfl rfl (by simp) (by simp; omega) (by simp; omega) rfl ⟨rfl, rfl⟩) ?_
    refine zS rfl rfl (.cons (zE rfl rfl zF1 ⟨rfl, rfl⟩) (.cons (zE rfl rfl zF1 ⟨rfl, rfl⟩) (.cons (zE rfl rfl zF1 ⟨rfl, rfl⟩) (.nil)))) <| zS rfl rfl (.cons (zD0 rfl rfl rfl ta28 rfl ⟨rfl, rfl⟩) (.cons (zD0 rfl rfl rfl ta28 rfl ⟨rfl, rfl⟩) (.nil))) <| zS rfl rfl (.cons (zD0 rfl rfl rfl ta30 rfl ⟨rfl, rfl⟩) (.cons (zD0 rfl rfl rfl ta30 rfl ⟨rfl, rfl⟩) (.cons (zD0 rfl rfl rfl ta30 rfl ⟨rfl, rfl⟩) (.cons (zD0 rfl rfl rfl ta30 rfl ⟨rfl, rfl⟩) (.nil))))) <| zS rfl rfl (.cons (zC1 rfl zO el30 rfl rfl (by decide) (by decide) rfl rfl ⟨rfl, rfl⟩) (.cons (zC1 rfl zO el30 rfl rfl (by decide) (by decide) rfl rfl ⟨rfl, rfl⟩) (.nil))) ?_
    refine zX0 rfl rfl rfl rfl (zC2 rfl zO el30 rfl rfl rfl (by simp) (by simp; omega) (by simp; omega) rfl ⟨rfl, rfl⟩) ?_
    refine zS rfl rfl (.cons (zE rfl rfl zI1 ⟨rfl, rfl⟩) (.cons (zE rfl rfl zI1 ⟨rfl, rfl⟩) (.nil))) <| zX0 rfl rfl rfl rfl (zH0 rfl rfl rfl rfl sz27 rfl rfl (zA rfl) rfl ⟨rfl, rfl⟩) <| dO rfl rfl rfl (zE rfl rfl zF1 ⟨rfl, rfl⟩) <| zX0 rfl rfl rfl rfl (zH0 rfl rfl rfl rfl sz28 rfl rfl (zA rfl) rfl ⟨rfl, rfl⟩) <| zL0 <| qR rfl <| qO rfl <| zY0 rfl rfl rfl rfl <| qM rfl rfl rfl <| qN ?_
    refine ⟨⟨i + 1, acc ++ [(e.1, .mk n3 m3 s3 c3 w3)]⟩, _, by dsimp only; omega, ⟨by dsimp only; omega, by dsimp only; rw [filt_snoc hs, if_pos (by simpa [seenE] using h34)]; exact goE_snoc he hf⟩, by simp only [List.map_append, zN]; rfl, .same (.same (.same (.same (.same (.same (.same (.new (cl_outC (by simp) (by simp)) (.new trivial (.new trivial .nil))))))))), (.old rfl rfl (.old rfl rfl (.old rfl rfl (.old rfl rfl (.old rfl rfl (.old rfl rfl (.nil))))))), (.new' rfl (zM1 hlt hlen) (.int _ _) (.nil))⟩
 ·
  have hge : i = l.length := by simp at h29; omega
  refine zN1 <| zB <| qR rfl <| qL rfl rfl rfl rfl ta30 rfl <| qO rfl <| zH0 rfl rfl rfl rfl sz30 rfl rfl (zA rfl) rfl <| qA rfl rfl rfl <| qN <| zK ?_
  exact zZ0 (.inr rfl) Tryz.results55 rfl rfl ta30 rfl (.agg (.cons (.refl _) (.cons (.refl _) (.cons (.nil 1) (.cons (.trans (.view _ _ _) (.of_eq (by rw [List.map_map]; rfl))) (.cons (.trans (.view _ _ _) (.of_eq (by rw [zJ4, List.map_map]; rfl))) .nil)))))) (zJ1 _ (.mk 0 0 [] (acc.map (·.1)) (acc.map (·.2)))) rfl (.refl _) (.iface0) ⟨by rw [show causesF f (.mk n1 m1 s1 c1 w1) (.mk n2 m2 s2 c2 w2) = some _ from by rw [causesF, hl]; rw [hge, List.take_length] at he; rw [he]; rfl]; rfl, rfl⟩
section
theorem fn_own {f : FuncId} {S : MS} (A : MS) : MV.fn (.func f) [] [.ref (S ++ A).length 0, .ref ((S ++ A).length + 1) 0, .ref ((S ++ A).length + 2) 0] = MV.fn (.func f) [] [.ref (S.length + A.length) 0, .ref (S.length + (A.length + 1)) 0, .ref (S.length + (A.length + 2)) 0] := by
 rw [zN]; rfl
theorem get_end {A A' R : MS} {c : MObj} (h : A'.length = A.length) : (A' ++ (R ++ [c]))[(A ++ R).length]? = some c := by
 rw [zN, ← h, getElem?_own]
 exact zN4 (B := [])
theorem set_end {A R : MS} {c d : MObj} : (A ++ (R ++ [c])).set (A ++ R).length d = A ++ (R ++ [d]) := by
 rw [zN, zM4]
 congr 1
 exact zS5 (B := [])
theorem get_rtz {A A' L' : MS} {x y c : MObj} (h : A'.length = A.length) (Z : MS) : (A' ++ (((y :: L') ++ [c]) ++ Z))[(A ++ x :: L').length]? = some c := by
 rw [zN, ← h, getElem?_own]
 exact zZ (zN4 (B := []))
theorem get_rt0 {A A' L' : MS} {x y c : MObj} (h : A'.length = A.length) : (A' ++ ((y :: L') ++ [c]))[(A ++ x :: L').length]? = some c := by
 have := get_rtz (x := x) (y := y) (c := c) (L' := L') h []
 rwa [List.append_nil] at this
section
variable {κ : Type}
def accE (f : Val → Val → Option Val) (l : List (Ent κ)) (j : Nat) : List (κ × Val) := (goE f (l.take j)).getD []
def okE (f : Val → Val → Option Val) (l : List (Ent κ)) (j : Nat) : Bool := ((l[j]?).bind (ofE f)).isSome
theorem acc_step {f : Val → Val → Option Val} {l : List (Ent κ)} {j : Nat} {e : Ent κ} {v : Val} (h : goE f (l.take j) = some (accE f l j)) (he : l[j]? = some e) (hv : ofE f e = some v) : goE f (l.take (j + 1)) = some (accE f l j ++ [(e.1, v)]) := by
 rw [List.take_add_one, he, Option.toList_some]
 exact goE_snoc h hv
theorem acc_next {f : Val → Val → Option Val} {l : List (Ent κ)} {j : Nat} {e : Ent κ} {v : Val} (h : goE f (l.take j) = some (accE f l j)) (he : l[j]? = some e) (hv : ofE f e = some v) : accE f l (j + 1) = accE f l j ++ [(e.1, v)] := by
 rw [accE, acc_step h he hv]; rfl
theorem acc_all {f : Val → Val → Option Val} {l : List (Ent κ)} : ∀ {j : Nat}, j ≤ l.length → (∀ i, i < j → okE f l i = true) → goE f (l.take j) = some (accE f l j)
 | 0, _, _ => by simp [accE, goE]
 | j + 1, hj, h => by
  have ih := acc_all (j := j) (by omega) fun i hi => h i (by omega)
  have hk := h j (by omega)
  obtain ⟨e, he⟩ : ∃ e, l[j]? = some e := ⟨_, zD (by omega)⟩
  rw [okE, he] at hk
  obtain ⟨v, hv⟩ := Option.isSome_iff_exists.1 hk
  rw [acc_step ih he hv, acc_next ih he hv]
end
theorem clo_V (n : Nat) (v : Val) : (MObj.cells (encV v).cells).cl n := by
 have h := zJ1 n v
 cases v with
 | mk a b c d e => cases h with
  | agg _ h => exact h
theorem clo_S (n : Nat) (s : Sch) : (MObj.cells (encS s).cells).cl n := by
 have h := cl_encS n s
 cases s with
 | mk a b => cases h with
  | agg _ h => exact h
theorem clo_1 {n : Nat} {x : MV} (h : Cl n x) : (MObj.cells [x]).cl n := fun y hy => by
 rw [List.mem_singleton] at hy; subst hy; exact h
theorem clo_Z (n : Nat) : (MObj.cells [.int .u64 0, .int .u64 0, .lst0, .lst0, .lst0]).cl n := fun y hy => by
 simp only [List.mem_cons, List.not_mem_nil, or_false] at hy
 rcases hy with rfl | rfl | rfl | rfl | rfl
 ·exact .int _ _
 ·exact .int _ _
 ·exact .lst0
 ·exact .lst0
 ·exact .lst0
theorem clo_outX {acc : List (Bs × Val)} {t u n : Nat} (ht : t < n) (hu : u < n) : (MObj.cells [.int .u64 0, .int .u64 0, .lst (some t) 1 (acc.map fun e => encX e.1), .lst0, .lst (some u) 5 (acc.map fun e => encV e.2)]).cl n := by
 intro x hx
 simp only [List.mem_cons, List.not_mem_nil, or_false] at hx
 rcases hx with rfl | rfl | rfl | rfl | rfl
 ·exact .int _ _
 ·exact .int _ _
 ·exact zR5 ht (fun e : Bs × Val => cl_encX n e.1) (fun e => .inr rfl)
 ·exact .lst0
 ·exact zR5 hu (fun e : Bs × Val => zJ1 n e.2) (fun e => by cases e.2; exact .inl rfl)
theorem one_encEX (e : Ent Bs) : (encE encX e).cells.all MV.one = true := by obtain ⟨k, v, o⟩ := e; cases o <;> rfl
theorem clo_bx (n : Nat) (l : List (REnt Bs)) : (MObj.cells [.lst none 3 (l.map (encR encX))]).cl n := clo_1 (cl_lst (cl_encR (fun n k => cl_encX n k) _) (fun _ => .inl rfl))
theorem okE_some {κ : Type} {f : Val → Val → Option Val} {l : List (Ent κ)} {j : Nat} {e : Ent κ} {v : Val} (h : l[j]? = some e) (hf : ofE f e = some v) : okE f l j = true := by rw [okE, h]; simp [hf]
theorem okE_none {κ : Type} {f : Val → Val → Option Val} {l : List (Ent κ)} {j : Nat} {e : Ent κ} (h : l[j]? = some e) (hf : ofE f e = none) : okE f l j = false := by rw [okE, h]; simp [hf]
theorem bad_none {κ : Type} {f : Val → Val → Option Val} {l : List (Ent κ)} {j : Nat} {e : Ent κ} (h : l[j]? = some e) (hf : okE f l j = false) : goE f l = none := by
 refine goE_bad (zF0 h) ?_
 rw [okE, h] at hf
 simpa using hf
theorem maps_spec (k k1 : Int) (i1 rest : List Sch) (f : Val → Val → Option Val) (n1 m1 : Int) (s1 : List Bs) (c1 : List (List Tk)) (w1 : List Val) (n2 m2 : Int) (s2 : List Bs) (c2 : List (List Tk)) (w2 : List Val) (hl1 : s1.length = w1.length) (hl2 : s2.length = w2.length) (h1 : s1.length ≤ 40) (h2 : s2.length ≤ 40) (hb : ∀ x ∈ w1, ∀ y ∈ w2, ∀ S : MS, MCalls Tryz.prog 31 [encS (.mk k1 i1), encV x, encV y] S fun v σ' => v = encO (f x y) ∧ σ' = S) (S : MS) : MCalls Tryz.prog 51 [encS (.mk k (.mk k1 i1 :: rest)), encV (.mk n1 m1 s1 c1 w1), encV (.mk n2 m2 s2 c2 w2)] S fun v σ' => v = encO (mapsF f (.mk n1 m1 s1 c1 w1) (.mk n2 m2 s2 c2 w2)) ∧ σ' = S := by
 refine zU Tryz.func51 rfl Tryz.ntmps51 (zA rfl) ?_
 generalize hl : mergedX (.mk n1 m1 s1 c1 w1) (.mk n2 m2 s2 c2 w2) = l
 have hll : l.length ≤ 80 := by rw [← hl]; have := mergeE_len cmpX (s1.zip w1) (s2.zip w2); simp only [mergedX, entX, Val.sv, Val.vv, List.length_zip] at *; omega
 have hmem : ∀ e ∈ l, ∀ y, e.2.2 = some y → e.2.1 ∈ w1 ∧ y ∈ w2 := fun e h => by
  obtain ⟨p, q⟩ := mergeE_mem _ _ _ e (by rw [← hl] at h; exact h)
  intro y hy
  obtain ⟨q1, k, q2⟩ := q y hy
  exact ⟨zip_mem2 q1, zip_mem2 q2⟩
 refine zB <| qR rfl <| qB rfl rfl rfl rfl rfl <| qB rfl rfl rfl rfl rfl <| qB rfl rfl rfl rfl rfl <| qO rfl <| zN0 rfl zm30 rfl rfl <| qO rfl <| zN0 rfl zm33 rfl rfl <| qN <| zB <| qR rfl <| qO rfl <| zN0 rfl zm30 rfl rfl <| qN <| zB <| zB ?_
 refine zU0 [10] [_, S ++ [.cells (encS (.mk k (.mk k1 i1 :: rest))).cells, .cells (encV (.mk n1 m1 s1 c1 w1)).cells, .cells (encV (.mk n2 m2 s2 c2 w2)).cells, .cells [.int .u64 0, .int .u64 0, .lst0, .lst0, .lst0], .cells [.iface0], .cells [.int .u64 0, .int .u64 0, .lst0, .lst0, .lst0], .cells [.lst none 3 ((s1.zip w1).map (encR encX))], .cells [.lst none 3 ((s2.zip w2).map (encR encX))], .cells [.fn (.func 94) [] []]]] mo (by decide) rfl rfl rfl rfl ?_
 refine zS rfl rfl (.cons (zE rfl rfl zR1 ⟨rfl, rfl⟩) (.cons (zE rfl rfl zR1 ⟨rfl, rfl⟩) (.nil))) <| zS rfl rfl (.cons (zD0 rfl rfl rfl ta26 rfl ⟨rfl, rfl⟩) (.cons (zD0 rfl rfl rfl ta26 rfl ⟨rfl, rfl⟩) (.nil))) <| zS rfl rfl (.cons (zE rfl rfl zF1 ⟨rfl, rfl⟩) (.cons (zE rfl rfl zF1 ⟨rfl, rfl⟩) (.nil))) <| zS rfl rfl (.cons (zD0 rfl rfl rfl ta28 rfl ⟨rfl, rfl⟩) (.cons (zD0 rfl rfl rfl ta28 rfl ⟨rfl, rfl⟩) (.nil))) <| zS rfl rfl (.cons (zH1 rfl rfl rfl co93 (xrow_spec s1 w1 hl1 (by omega) _)) .nil) ?_
 refine zS rfl rfl (.cons (zE rfl rfl zR1 ⟨rfl, rfl⟩) (.cons (zE rfl rfl zR1 ⟨rfl, rfl⟩) (.nil))) <| zS rfl rfl (.cons (zD0 rfl rfl rfl ta26 rfl ⟨rfl, rfl⟩) (.cons (zD0 rfl rfl rfl ta26 rfl ⟨rfl, rfl⟩) (.nil))) <| zS rfl rfl (.cons (zE rfl rfl zF1 ⟨rfl, rfl⟩) (.cons (zE rfl rfl zF1 ⟨rfl, rfl⟩) (.nil))) <| zS rfl rfl (.cons (zD0 rfl rfl rfl ta28 rfl ⟨rfl, rfl⟩) (.cons (zD0 rfl rfl rfl ta28 rfl ⟨rfl, rfl⟩) (.nil))) <| zS rfl rfl (.cons (zH1 rfl rfl rfl co93 (xrow_spec s2 w2 hl2 (by omega) _)) .nil) ?_
 refine zX0 rfl rfl rfl rfl (zH1 rfl rfl rfl co92 ((xmerged_spec (s1.zip w1) (s2.zip w2) _ _).mono fun _ _ h => ⟨h.1.trans (fn_own [_, _, _, _, _, _]), h.2.trans (zC0 ..)⟩)) ?_
 refine zL0 <| zB0 <| zW5 5 2 9 1 rfl rfl (Nat.le_refl _) rfl rfl <| zW5 5 4 30 5 rfl rfl (Nat.le_refl _) rfl rfl ?_
 refine mwp_rangeC (L0 := _) .ret (.inl rfl) (okE f l) (fun j => ([.cells (encS (.mk k (.mk k1 i1 :: rest))).cells, .cells (encV (.mk n1 m1 s1 c1 w1)).cells, .cells (encV (.mk n2 m2 s2 c2 w2)).cells, .cells [.int .u64 0, .int .u64 0, .lst0, .lst0, .lst0], .cells [.iface0], .cells [.int .u64 0, .int .u64 0, .lst (some (S.length + 9)) 1 (((accE f l j).map fun e => encX e.1)), .lst0, .lst (some (S.length + 10)) 5 (((accE f l j).map fun e => encV e.2))], .cells [.lst none 3 ((restE cmpX (s1.zip w1) (s2.zip w2) j).1.map (encR encX))], .cells [.lst none 3 ((restE cmpX (s1.zip w1) (s2.zip w2) j).2.map (encR encX))], .cells [.fn (.func 94) [] []], .row 9 1 (accE f l j).length, .row 30 5 (accE f l j).length] : MS)) (fun j => ([.cells (encS (.mk k (.mk k1 i1 :: rest))).cells, .cells (encV (.mk n1 m1 s1 c1 w1)).cells, .cells (encV (.mk n2 m2 s2 c2 w2)).cells, .cells [.int .u64 0, .int .u64 0, .lst0, .lst0, .lst0], .cells [.iface0], .cells [.int .u64 0, .int .u64 0, .lst (some (S.length + 9)) 1 (((accE f l j).map fun e => encX e.1)), .lst0, .lst (some (S.length + 10)) 5 (((accE f l j).map fun e => encV e.2))], .cells [.lst none 3 ((restE cmpX (s1.zip w1) (s2.zip w2) (j + 1)).1.map (encR encX))], .cells [.lst none 3 ((restE cmpX (s1.zip w1) (s2.zip w2) (j + 1)).2.map (encR encX))], .cells [.fn (.func 94) [] []], .row 9 1 (accE f l j).length, .row 30 5 (accE f l j).length] : MS)) (fun j => ([.cells (encS (.mk k (.mk k1 i1 :: rest))).cells, .cells (encV (.mk n1 m1 s1 c1 w1)).cells, .cells (encV (.mk n2 m2 s2 c2 w2)).cells, .cells [.int .u64 0, .int .u64 0, .lst0, .lst0, .lst0], .cells [encErr 13], .cells [.int .u64 0, .int .u64 0, .lst (some (S.length + 9)) 1 (((accE f l j).map fun e => encX e.1)), .lst0, .lst (some (S.length + 10)) 5 (((accE f l j).map fun e => encV e.2))], .cells [.lst none 3 ((restE cmpX (s1.zip w1) (s2.zip w2) (j + 1)).1.map (encR encX))], .cells [.lst none 3 ((restE cmpX (s1.zip w1) (s2.zip w2) (j + 1)).2.map (encR encX))], .cells [.fn (.func 94) [] []], .row 9 1 (accE f l j).length, .row 30 5 (accE f l j).length] : MS)) (fun j => rfl) (fun j => rfl) (fun j => rfl) rfl
  (fun j o ho n hn => by
   simp only [List.mem_cons, List.not_mem_nil, or_false] at ho
   rcases ho with rfl | rfl | rfl | rfl | rfl | rfl | rfl | rfl | rfl | rfl | rfl
   ·exact clo_S _ _
   ·exact clo_V _ _
   ·exact clo_V _ _
   ·exact clo_Z _
   ·exact clo_1 .iface0
   ·exact clo_outX (by simp only [zN, zY, List.length_nil] at hn; omega) (by simp only [zN, zY, List.length_nil] at hn; omega)
   ·exact clo_bx _ _
   ·exact clo_bx _ _
   ·exact clo_1 (.fn _ _ _ (fun _ h => by cases h) (fun _ h => by cases h))
   ·exact trivial
   ·exact trivial)
  (fun j o ho n hn => by
   simp only [List.mem_cons, List.not_mem_nil, or_false] at ho
   rcases ho with rfl | rfl | rfl | rfl | rfl | rfl | rfl | rfl | rfl | rfl | rfl
   ·exact clo_S _ _
   ·exact clo_V _ _
   ·exact clo_V _ _
   ·exact clo_Z _
   ·exact clo_1 .iface0
   ·exact clo_outX (by simp only [zN, zY, List.length_nil] at hn; omega) (by simp only [zN, zY, List.length_nil] at hn; omega)
   ·exact clo_bx _ _
   ·exact clo_bx _ _
   ·exact clo_1 (.fn _ _ _ (fun _ h => by cases h) (fun _ h => by cases h))
   ·exact trivial
   ·exact trivial)
  (fun j o ho n hn => by
   simp only [List.mem_cons, List.not_mem_nil, or_false] at ho
   rcases ho with rfl | rfl | rfl | rfl | rfl | rfl | rfl | rfl | rfl | rfl | rfl
   ·exact clo_S _ _
   ·exact clo_V _ _
   ·exact clo_V _ _
   ·exact clo_Z _
   ·exact clo_1 (.iface _ _ (.int _ _))
   ·exact clo_outX (by simp only [zN, zY, List.length_nil] at hn; omega) (by simp only [zN, zY, List.length_nil] at hn; omega)
   ·exact clo_bx _ _
   ·exact clo_bx _ _
   ·exact clo_1 (.fn _ _ _ (fun _ h => by cases h) (fun _ h => by cases h))
   ·exact trivial
   ·exact trivial) rfl co131 rfl (by simp) (xmerged_iter cmpX _ co94 (fun a b S => strCmp_spec a b S) (s1.zip w1) (s2.zip w2) (S.length + 6) (S.length + 7) (S.length + 8) (S.length + 12) (by omega)) (fun j => by simp) (fun j hj => ⟨zI4 (k := 6) rfl, zI4 (k := 7) rfl, zI4 (k := 8) rfl, ?_⟩) (fun j s q => by simp) rfl (fun y hy => by obtain ⟨i, _, rfl⟩ := List.mem_map.1 hy; rfl) ?_ ?_ ?_
 ·rw [set_mid_ (k := 6) rfl, set_mid_ (k := 7) rfl]; rfl
 ·
  intro j y hy hbef L'
  rw [zQ0] at hy
  obtain ⟨e, hs, rfl⟩ := Option.map_eq_some_iff.1 hy
  replace hs : l[j]? = some e := by rw [← hl]; exact hs
  have hjl : j < l.length := (zI.1 hs).1
  have hacc := acc_all (f := f) (by omega) hbef
  have hal : (accE f l j).length ≤ 1000 := by have h1 := goE_len hacc; rw [List.length_take] at h1; omega
  refine qR rfl <| qO rfl <| zV5 rfl zm130 <| qO rfl <| zS2 rfl rfl rfl sz130 rfl (one_encEX e) (zA rfl) <| qN ?_
  refine ⟨rfl, [_], rfl, ?_⟩
  rw [zC0 (S ++ _)]
  refine mwp_abs fun R hR => ?_
  have hE0 : ∀ (x : MObj) (A' : MS), A'.length = S.length + 11 → (A' ++ R)[((S ++ ([.cells (encS (.mk k (.mk k1 i1 :: rest))).cells, .cells (encV (.mk n1 m1 s1 c1 w1)).cells, .cells (encV (.mk n2 m2 s2 c2 w2)).cells, .cells [.int .u64 0, .int .u64 0, .lst0, .lst0, .lst0], .cells [.iface0], .cells [.int .u64 0, .int .u64 0, .lst (some (S.length + 9)) 1 (((accE f l j).map fun e => encX e.1)), .lst0, .lst (some (S.length + 10)) 5 (((accE f l j).map fun e => encV e.2))], .cells [.lst none 3 ((restE cmpX (s1.zip w1) (s2.zip w2) (j + 1)).1.map (encR encX))], .cells [.lst none 3 ((restE cmpX (s1.zip w1) (s2.zip w2) (j + 1)).2.map (encR encX))], .cells [.fn (.func 94) [] []], .row 9 1 (accE f l j).length, .row 30 5 (accE f l j).length] : MS)) ++ x :: L').length]? = some (.cells (encE encX e).cells) := fun x A' hA => by rw [hR]; exact get_rt0 (by simpa using hA)
  have hE : ∀ (x : MObj) (A' Z : MS), A'.length = S.length + 11 → (A' ++ (R ++ Z))[((S ++ ([.cells (encS (.mk k (.mk k1 i1 :: rest))).cells, .cells (encV (.mk n1 m1 s1 c1 w1)).cells, .cells (encV (.mk n2 m2 s2 c2 w2)).cells, .cells [.int .u64 0, .int .u64 0, .lst0, .lst0, .lst0], .cells [.iface0], .cells [.int .u64 0, .int .u64 0, .lst (some (S.length + 9)) 1 (((accE f l j).map fun e => encX e.1)), .lst0, .lst (some (S.length + 10)) 5 (((accE f l j).map fun e => encV e.2))], .cells [.lst none 3 ((restE cmpX (s1.zip w1) (s2.zip w2) (j + 1)).1.map (encR encX))], .cells [.lst none 3 ((restE cmpX (s1.zip w1) (s2.zip w2) (j + 1)).2.map (encR encX))], .cells [.fn (.func 94) [] []], .row 9 1 (accE f l j).length, .row 30 5 (accE f l j).length] : MS)) ++ x :: L').length]? = some (.cells (encE encX e).cells) := fun x A' Z hA => by rw [hR]; exact get_rtz (by simpa using hA) Z
  refine zB0 <| zB ?_
  have hof := fun S => xof_spec k1 i1 f e (fun y hy S => hb _ (hmem e (zF0 hs) y hy).1 y (hmem e (zF0 hs) y hy).2 S) S
  rcases hf : ofE f e with _ | ⟨⟨n3, m3, s3, c3, w3⟩⟩ <;> rw [hf] at hof
  ·
   refine zU0 [9, 10] [_, (S ++ [.cells (encS (.mk k (.mk k1 i1 :: rest))).cells, .cells (encV (.mk n1 m1 s1 c1 w1)).cells, .cells (encV (.mk n2 m2 s2 c2 w2)).cells, .cells [.int .u64 0, .int .u64 0, .lst0, .lst0, .lst0], .cells [.iface0], .cells [.int .u64 0, .int .u64 0, .lst (some (S.length + 9)) 1 (((accE f l j).map fun e => encX e.1)), .lst0, .lst (some (S.length + 10)) 5 (((accE f l j).map fun e => encV e.2))], .cells [.lst none 3 ((restE cmpX (s1.zip w1) (s2.zip w2) (j + 1)).1.map (encR encX))], .cells [.lst none 3 ((restE cmpX (s1.zip w1) (s2.zip w2) (j + 1)).2.map (encR encX))], .cells [.fn (.func 94) [] []], .row 9 1 (accE f l j).length, .row 30 5 (accE f l j).length]) ++ (R ++ [.cells [.int .u64 0, .int .u64 0, .lst0, .lst0, .lst0]]), (S ++ [.cells (encS (.mk k (.mk k1 i1 :: rest))).cells, .cells (encV (.mk n1 m1 s1 c1 w1)).cells, .cells (encV (.mk n2 m2 s2 c2 w2)).cells, .cells [.int .u64 0, .int .u64 0, .lst0, .lst0, .lst0], .cells [.iface0], .cells [.int .u64 0, .int .u64 0, .lst (some (S.length + 9)) 1 (((accE f l j).map fun e => encX e.1)), .lst0, .lst (some (S.length + 10)) 5 (((accE f l j).map fun e => encV e.2))], .cells [.lst none 3 ((restE cmpX (s1.zip w1) (s2.zip w2) (j + 1)).1.map (encR encX))], .cells [.lst none 3 ((restE cmpX (s1.zip w1) (s2.zip w2) (j + 1)).2.map (encR encX))], .cells [.fn (.func 94) [] []], .row 9 1 (accE f l j).length, .row 30 5 (accE f l j).length]) ++ (R ++ [.cells (encV noV).cells])] mo (by decide) rfl rfl rfl rfl ?_
   refine zS rfl rfl (.cons (zE rfl rfl zU2 ⟨rfl, rfl⟩) (.cons (zE rfl rfl zU2 ⟨rfl, rfl⟩) (.nil))) <| zS rfl rfl (.cons (zF5 rfl rfl rfl ta22 rfl ⟨rfl, rfl⟩) (.cons (zF5 rfl rfl rfl ta22 rfl ⟨rfl, rfl⟩) (.nil))) <| zS rfl rfl (.cons (zG rfl zR0 sz24 (by decide) rfl rfl rfl (show _ = some (encS (.mk k1 i1)) from rfl) ⟨rfl, rfl⟩) (.cons (zG rfl zR0 sz24 (by decide) rfl rfl rfl (show _ = some (encS (.mk k1 i1)) from rfl) ⟨rfl, rfl⟩) (.nil))) ?_
   refine zS rfl rfl (.cons (zH rfl rfl ta24 rfl ⟨rfl, rfl⟩) (.cons (zH rfl rfl ta24 rfl ⟨rfl, rfl⟩) (.nil))) <| zS rfl rfl (.cons (zT rfl rfl (hE0 _ _ (by simp)) ta130 rfl ⟨rfl, rfl⟩) (.cons (zT rfl rfl (hE _ _ _ (by simp)) ta130 rfl ⟨rfl, rfl⟩) (.nil))) ?_
   refine zS rfl rfl (.cons (zH1 rfl rfl rfl co95 (hof _)) (.cons (zH1 rfl rfl rfl co95 (hof _)) (.nil))) <| zS rfl rfl (.cons (zV rfl rfl ⟨rfl, rfl⟩) (.cons (zV rfl rfl ⟨rfl, rfl⟩) (.nil))) <| zS rfl rfl (.cons (zE0 rfl rfl rfl ⟨rfl, rfl⟩) (.cons (zE0 rfl rfl rfl ⟨rfl, rfl⟩) (.nil))) <| zS rfl rfl (.cons (zE0 rfl rfl rfl ⟨rfl, rfl⟩) (.cons (zE0 rfl rfl rfl ⟨rfl, rfl⟩) (.cons (zE0 rfl rfl rfl ⟨rfl, rfl⟩) (.nil)))) <| zX0 rfl rfl rfl rfl (zV5 rfl zm30 ⟨rfl, zC0 ..⟩) <| zX0 rfl rfl rfl rfl (op_store rfl rfl rfl (get_end rfl) sz30 rfl rfl (zA rfl) ⟨rfl, set_end⟩) <| dO rfl rfl rfl (zB1 rfl rfl ⟨rfl, rfl⟩) <| zL0 <| zB <| zB <| qR rfl <| qM rfl rfl rfl <| qO rfl <| zY2 rfl zI0 rfl rfl (.inr ⟨rfl, rfl⟩) <| qN <| zW rfl (rfl) <| zB <| qR rfl <| qO rfl <| zW1 rfl zS0 zm30 .nil (by kernel_rfl) ?_
   refine qM rfl rfl rfl <| qO rfl <| zS4 rfl rfl rfl rfl sz30 rfl rfl (zA rfl) rfl <| qO rfl <| zS4 rfl rfl rfl rfl sz33 rfl rfl (zA rfl) rfl <| qN <| zK ?_
   exact .inr ⟨okE_none hs hf, rfl, [_, _], by rw [hR]; simp only [zC0, List.cons_append, List.nil_append]; rfl⟩
  ·
   refine zU0 [9, 10] [_, (S ++ [.cells (encS (.mk k (.mk k1 i1 :: rest))).cells, .cells (encV (.mk n1 m1 s1 c1 w1)).cells, .cells (encV (.mk n2 m2 s2 c2 w2)).cells, .cells [.int .u64 0, .int .u64 0, .lst0, .lst0, .lst0], .cells [.iface0], .cells [.int .u64 0, .int .u64 0, .lst (some (S.length + 9)) 1 (((accE f l j).map fun e => encX e.1)), .lst0, .lst (some (S.length + 10)) 5 (((accE f l j).map fun e => encV e.2))], .cells [.lst none 3 ((restE cmpX (s1.zip w1) (s2.zip w2) (j + 1)).1.map (encR encX))], .cells [.lst none 3 ((restE cmpX (s1.zip w1) (s2.zip w2) (j + 1)).2.map (encR encX))], .cells [.fn (.func 94) [] []], .row 9 1 (accE f l j).length, .row 30 5 (accE f l j).length]) ++ (R ++ [.cells [.int .u64 0, .int .u64 0, .lst0, .lst0, .lst0]]), (S ++ [.cells (encS (.mk k (.mk k1 i1 :: rest))).cells, .cells (encV (.mk n1 m1 s1 c1 w1)).cells, .cells (encV (.mk n2 m2 s2 c2 w2)).cells, .cells [.int .u64 0, .int .u64 0, .lst0, .lst0, .lst0], .cells [.iface0], .cells [.int .u64 0, .int .u64 0, .lst (some (S.length + 9)) 1 (((accE f l j).map fun e => encX e.1)), .lst0, .lst (some (S.length + 10)) 5 (((accE f l j).map fun e => encV e.2))], .cells [.lst none 3 ((restE cmpX (s1.zip w1) (s2.zip w2) (j + 1)).1.map (encR encX))], .cells [.lst none 3 ((restE cmpX (s1.zip w1) (s2.zip w2) (j + 1)).2.map (encR encX))], .cells [.fn (.func 94) [] []], .row 9 1 (accE f l j).length, .row 30 5 (accE f l j).length]) ++ (R ++ [.cells (encV (.mk n3 m3 s3 c3 w3)).cells])] mo (by decide) rfl rfl rfl rfl ?_
   refine zS rfl rfl (.cons (zE rfl rfl zU2 ⟨rfl, rfl⟩) (.cons (zE rfl rfl zU2 ⟨rfl, rfl⟩) (.nil))) <| zS rfl rfl (.cons (zF5 rfl rfl rfl ta22 rfl ⟨rfl, rfl⟩) (.cons (zF5 rfl rfl rfl ta22 rfl ⟨rfl, rfl⟩) (.nil))) <| zS rfl rfl (.cons (zG rfl zR0 sz24 (by decide) rfl rfl rfl (show _ = some (encS (.mk k1 i1)) from rfl) ⟨rfl, rfl⟩) (.cons (zG rfl zR0 sz24 (by decide) rfl rfl rfl (show _ = some (encS (.mk k1 i1)) from rfl) ⟨rfl, rfl⟩) (.nil))) ?_
   refine zS rfl rfl (.cons (zH rfl rfl ta24 rfl ⟨rfl, rfl⟩) (.cons (zH rfl rfl ta24 rfl ⟨rfl, rfl⟩) (.nil))) <| zS rfl rfl (.cons (zT rfl rfl (hE0 _ _ (by simp)) ta130 rfl ⟨rfl, rfl⟩) (.cons (zT rfl rfl (hE _ _ _ (by simp)) ta130 rfl ⟨rfl, rfl⟩) (.nil))) ?_
   refine zS rfl rfl (.cons (zH1 rfl rfl rfl co95 (hof _)) (.cons (zH1 rfl rfl rfl co95 (hof _)) (.nil))) <| zS rfl rfl (.cons (zV rfl rfl ⟨rfl, rfl⟩) (.cons (zV rfl rfl ⟨rfl, rfl⟩) (.nil))) <| zS rfl rfl (.cons (zE0 rfl rfl rfl ⟨rfl, rfl⟩) (.cons (zE0 rfl rfl rfl ⟨rfl, rfl⟩) (.nil))) <| zS rfl rfl (.cons (zE0 rfl rfl rfl ⟨rfl, rfl⟩) (.cons (zE0 rfl rfl rfl ⟨rfl, rfl⟩) (.cons (zE0 rfl rfl rfl ⟨rfl, rfl⟩) (.nil)))) <| zX0 rfl rfl rfl rfl (zV5 rfl zm30 ⟨rfl, zC0 ..⟩) <| zX0 rfl rfl rfl rfl (op_store rfl rfl rfl (get_end rfl) sz30 rfl rfl (zA rfl) ⟨rfl, set_end⟩) <| dO rfl rfl rfl (zB1 rfl rfl ⟨rfl, rfl⟩) <| zL0 <| zB <| zB <| qR rfl <| qM rfl rfl rfl <| qO rfl <| zS3 rfl zI0 rfl rfl (.inr ⟨rfl, rfl⟩) <| qN <| zL rfl (rfl) <| zA0 ?_
   refine zU0 [5, 10, 12, 14] [_, (S ++ [.cells (encS (.mk k (.mk k1 i1 :: rest))).cells, .cells (encV (.mk n1 m1 s1 c1 w1)).cells, .cells (encV (.mk n2 m2 s2 c2 w2)).cells, .cells [.int .u64 0, .int .u64 0, .lst0, .lst0, .lst0], .cells [.iface0], .cells [.int .u64 0, .int .u64 0, .lst (some (S.length + 9)) 1 (((accE f l j).map fun e => encX e.1)), .lst0, .lst (some (S.length + 10)) 5 (((accE f l j).map fun e => encV e.2))], .cells [.lst none 3 ((restE cmpX (s1.zip w1) (s2.zip w2) (j + 1)).1.map (encR encX))], .cells [.lst none 3 ((restE cmpX (s1.zip w1) (s2.zip w2) (j + 1)).2.map (encR encX))], .cells [.fn (.func 94) [] []], .row 9 1 ((accE f l j).length + 1), .row 30 5 (accE f l j).length]) ++ (R ++ [.cells (encV (.mk n3 m3 s3 c3 w3)).cells]), (S ++ [.cells (encS (.mk k (.mk k1 i1 :: rest))).cells, .cells (encV (.mk n1 m1 s1 c1 w1)).cells, .cells (encV (.mk n2 m2 s2 c2 w2)).cells, .cells [.int .u64 0, .int .u64 0, .lst0, .lst0, .lst0], .cells [.iface0], .cells [.int .u64 0, .int .u64 0, .lst (some (S.length + 9)) 1 (((accE f l j).map fun e => encX e.1)), .lst0, .lst (some (S.length + 10)) 5 (((accE f l j).map fun e => encV e.2))], .cells [.lst none 3 ((restE cmpX (s1.zip w1) (s2.zip w2) (j + 1)).1.map (encR encX))], .cells [.lst none 3 ((restE cmpX (s1.zip w1) (s2.zip w2) (j + 1)).2.map (encR encX))], .cells [.fn (.func 94) [] []], .row 9 1 ((accE f l j).length + 1), .row 30 5 ((accE f l j).length + 1)]) ++ (R ++ [.cells (encV (.mk n3 m3 s3 c3 w3)).cells]), (S ++ [.cells (encS (.mk k (.mk k1 i1 :: rest))).cells, .cells (encV (.mk n1 m1 s1 c1 w1)).cells, .cells (encV (.mk n2 m2 s2 c2 w2)).cells, .cells [.int .u64 0, .int .u64 0, .lst0, .lst0, .lst0], .cells [.iface0], .cells [.int .u64 0, .int .u64 0, .lst (some (S.length + 9)) 1 ((((accE f l j).map fun e => encX e.1) ++ [encX e.1])), .lst0, .lst (some (S.length + 10)) 5 (((accE f l j).map fun e => encV e.2))], .cells [.lst none 3 ((restE cmpX (s1.zip w1) (s2.zip w2) (j + 1)).1.map (encR encX))], .cells [.lst none 3 ((restE cmpX (s1.zip w1) (s2.zip w2) (j + 1)).2.map (encR encX))], .cells [.fn (.func 94) [] []], .row 9 1 ((accE f l j).length + 1), .row 30 5 ((accE f l j).length + 1)]) ++ (R ++ [.cells (encV (.mk n3 m3 s3 c3 w3)).cells]), (S ++ [.cells (encS (.mk k (.mk k1 i1 :: rest))).cells, .cells (encV (.mk n1 m1 s1 c1 w1)).cells, .cells (encV (.mk n2 m2 s2 c2 w2)).cells, .cells [.int .u64 0, .int .u64 0, .lst0, .lst0, .lst0], .cells [.iface0], .cells [.int .u64 0, .int .u64 0, .lst (some (S.length + 9)) 1 ((((accE f l j).map fun e => encX e.1) ++ [encX e.1])), .lst0, .lst (some (S.length + 10)) 5 ((((accE f l j).map fun e => encV e.2) ++ [encV (.mk n3 m3 s3 c3 w3)]))], .cells [.lst none 3 ((restE cmpX (s1.zip w1) (s2.zip w2) (j + 1)).1.map (encR encX))], .cells [.lst none 3 ((restE cmpX (s1.zip w1) (s2.zip w2) (j + 1)).2.map (encR encX))], .cells [.fn (.func 94) [] []], .row 9 1 ((accE f l j).length + 1), .row 30 5 ((accE f l j).length + 1)]) ++ (R ++ [.cells (encV (.mk n3 m3 s3 c3 w3)).cells])] mo (by decide) rfl rfl rfl rfl ?_
   refine zS rfl rfl (.cons (zE rfl rfl zR1 ⟨rfl, rfl⟩) (.cons (zE rfl rfl zR1 ⟨rfl, rfl⟩) (.cons (zE rfl rfl zR1 ⟨rfl, rfl⟩) (.nil)))) <| dO rfl rfl rfl (zF5 rfl rfl rfl ta26 rfl ⟨rfl, rfl⟩) <| zS rfl rfl (.cons (zE rfl rfl fo130_0 ⟨rfl, rfl⟩) (.cons (zE rfl rfl fo130_0 ⟨rfl, rfl⟩) (.cons (zE rfl rfl fo130_0 ⟨rfl, rfl⟩) (.nil)))) <| zS rfl rfl (.cons (zT rfl rfl (hE _ _ _ (by simp)) ta9 rfl ⟨rfl, rfl⟩) (.cons (zT rfl rfl (hE _ _ _ (by simp)) ta9 rfl ⟨rfl, rfl⟩) (.cons (zT rfl rfl (hE _ _ _ (by simp)) ta9 rfl ⟨rfl, rfl⟩) (.nil)))) ?_
   refine dO rfl rfl rfl (zC1 rfl zX el9 rfl rfl (by decide) (by decide) rfl rfl ⟨rfl, rfl⟩) ?_
   refine zX0 rfl rfl rfl rfl (op_append_mid rfl zX el9 rfl rfl rfl (by simp) (by simp; omega) (by simp; omega) rfl ⟨rfl, rfl⟩) ?_
   refine zS rfl rfl (.cons (zE rfl rfl zF1 ⟨rfl, rfl⟩) (.cons (zE rfl rfl zF1 ⟨rfl, rfl⟩) (.cons (zE rfl rfl zF1 ⟨rfl, rfl⟩) (.nil)))) <| zS rfl rfl (.cons (zF5 rfl rfl rfl ta28 rfl ⟨rfl, rfl⟩) (.cons (zF5 rfl rfl rfl ta28 rfl ⟨rfl, rfl⟩) (.nil))) <| zS rfl rfl (.cons (zT rfl rfl (get_end (by simp)) ta30 rfl ⟨rfl, rfl⟩) (.cons (zT rfl rfl (get_end (by simp)) ta30 rfl ⟨rfl, rfl⟩) (.cons (zT rfl rfl (get_end (by simp)) ta30 rfl ⟨rfl, rfl⟩) (.cons (zT rfl rfl (get_end (by simp)) ta30 rfl ⟨rfl, rfl⟩) (.nil))))) ?_
   refine zS rfl rfl (.cons (zC1 rfl zO el30 rfl rfl (by decide) (by decide) rfl rfl ⟨rfl, rfl⟩) (.cons (zC1 rfl zO el30 rfl rfl (by decide) (by decide) rfl rfl ⟨rfl, rfl⟩) (.nil))) ?_
   refine zX0 rfl rfl rfl rfl (op_append_mid rfl zO el30 rfl rfl rfl (by simp) (by simp; omega) (by simp; omega) rfl ⟨rfl, rfl⟩) ?_
   refine zS rfl rfl (.cons (zE rfl rfl zR1 ⟨rfl, rfl⟩) (.cons (zE rfl rfl zR1 ⟨rfl, rfl⟩) (.nil))) <| zX0 rfl rfl rfl rfl (zS4 rfl rfl rfl rfl sz26 rfl rfl (zA rfl) rfl ⟨rfl, rfl⟩) <| dO rfl rfl rfl (zE rfl rfl zF1 ⟨rfl, rfl⟩) <| zX0 rfl rfl rfl rfl (zS4 rfl rfl rfl rfl sz28 rfl rfl (zA rfl) rfl ⟨rfl, rfl⟩) <| zL0 ?_
   exact .inl ⟨okE_some hs hf, rfl, [_, _], by rw [hR, acc_next hacc hs hf, List.map_append, List.map_append, len_snoc (l := accE f l j)]; simp only [zC0, List.cons_append, List.nil_append]; rfl⟩
 ·
  intro hall
  rw [zC, show (mergeE cmpX (s1.zip w1) (s2.zip w2)).length = l.length from congrArg List.length hl]
  replace hall := acc_all (f := f) (j := l.length) (Nat.le_refl _) (fun i hi => hall i (by rw [zC]; rw [← hl] at hi; exact hi))
  rw [List.take_length] at hall
  rw [zC0 S]
  refine zB <| qR rfl <| qL rfl rfl rfl rfl ta30 rfl <| qO rfl <| zH0 rfl rfl rfl rfl sz30 rfl rfl (zA rfl) rfl <| qO rfl <| zH0 rfl rfl rfl rfl sz33 rfl rfl (zA rfl) rfl <| qN <| zK ?_
  exact ret_cell_cell (.inr rfl) Tryz.results51 rfl rfl ta30 rfl (.agg (.cons (.refl _) (.cons (.refl _) (.cons (.trans (.view _ _ _) (.of_eq (by rw [List.map_map]; rfl))) (.cons (.nil 1) (.cons (.trans (.view _ _ _) (.of_eq (by rw [zJ4, List.map_map]; rfl))) .nil)))))) (zJ1 _ (.mk 0 0 ((accE f l l.length).map (·.1)) [] ((accE f l l.length).map (·.2)))) rfl rfl ta33 rfl (.refl _) (.iface0) ⟨by rw [show mapsF f (.mk n1 m1 s1 c1 w1) (.mk n2 m2 s2 c2 w2) = some _ from by rw [mapsF, hl, hall]; rfl]; rfl, rfl⟩
 ·
  intro j y hy hp
  rw [zQ0] at hy
  obtain ⟨e, hs, rfl⟩ := Option.map_eq_some_iff.1 hy
  replace hs : l[j]? = some e := by rw [← hl]; exact hs
  rw [zC0 S]
  exact ret_cell_cell (.inr rfl) Tryz.results51 rfl rfl ta30 rfl (.agg (.cons (.refl _) (.cons (.refl _) (.cons (.nil 1) (.cons (.nil 1) (.cons (.nil 5) .nil)))))) (zJ1 _ (noV)) rfl rfl ta33 rfl (.refl _) (.iface _ _ (.int _ _)) ⟨by rw [show mapsF f (.mk n1 m1 s1 c1 w1) (.mk n2 m2 s2 c2 w2) = none from by rw [mapsF, hl, bad_none hs hp]; rfl]; rfl, rfl⟩
end
theorem _root_.zK3 : type_of% @Tryz.results115 := @Tryz.results115
theorem arity_spec (k : Int) (S : MS) : MCalls Tryz.prog 115 [.int .i64 k] S fun v σ' => v = .int .i64 (partsF k) ∧ σ' = S := by
 refine zU Tryz.func115 rfl Tryz.ntmps115 (zA rfl) ?_
 refine zB <| qR rfl <| qA rfl rfl rfl <| qN <| zB <| zB <| qR rfl <| qM rfl rfl rfl <| qN <| zB0 <| zB <| zB <| qR rfl <| qC rfl rfl rfl rfl rfl <| qA rfl rfl rfl <| qN ?_
 refine zJ rfl (fun h4 => ?_) (fun h4 => ?_)
 ·
  refine zA0 <| zW rfl h4 <| zB <| qR rfl <| qA rfl rfl rfl <| qN <| zK ?_
  exact zQ (.inr rfl) zK3 rfl (.refl _) (.int _ _) ⟨by simp_all [partsF], rfl⟩
 ·
  refine zB <| qR rfl <| qC rfl rfl rfl rfl rfl <| qA rfl rfl rfl <| qN ?_
  refine zJ rfl (fun h4 => ?_) (fun h4 => ?_)
  ·
   refine zA0 <| zW rfl h4 <| zB <| qR rfl <| qA rfl rfl rfl <| qN <| zK ?_
   exact zQ (.inr rfl) zK3 rfl (.refl _) (.int _ _) ⟨by simp_all [partsF], rfl⟩
  ·
   refine zB <| qR rfl <| qC rfl rfl rfl rfl rfl <| qA rfl rfl rfl <| qN ?_
   refine zJ rfl (fun h4 => ?_) (fun h4 => ?_)
   ·
    refine zA0 <| zW rfl h4 <| zB <| qR rfl <| qA rfl rfl rfl <| qN <| zK ?_
    exact zQ (.inr rfl) zK3 rfl (.refl _) (.int _ _) ⟨by simp_all [partsF], rfl⟩
   ·
    refine zB <| qR rfl <| qC rfl rfl rfl rfl rfl <| qA rfl rfl rfl <| qN ?_
    refine zJ rfl (fun h4 => ?_) (fun h4 => ?_)
    ·
     refine zA0 <| zW rfl h4 <| zB <| qR rfl <| qA rfl rfl rfl <| qN <| zK ?_
     exact zQ (.inr rfl) zK3 rfl (.refl _) (.int _ _) ⟨by simp_all [partsF], rfl⟩
    ·
     refine qR rfl <| qC rfl rfl rfl rfl rfl <| qA rfl rfl rfl <| qN ?_
     refine zJ rfl (fun h4 => ?_) (fun h4 => ?_)
     ·
      refine zB <| qR rfl <| qA rfl rfl rfl <| qN <| zK ?_
      exact zQ (.inr rfl) zK3 rfl (.refl _) (.int _ _) ⟨by simp_all [partsF], rfl⟩
     ·
      refine zB <| zB <| qR rfl <| qC rfl rfl rfl rfl rfl <| qA rfl rfl rfl <| qN ?_
      refine zJ rfl (fun h10 => ?_) (fun h10 => ?_)
      ·
       refine zA0 <| zW rfl h10 <| zB <| qR rfl <| qA rfl rfl rfl <| qN <| zK ?_
       exact zQ (.inr rfl) zK3 rfl (.refl _) (.int _ _) ⟨by simp_all [partsF], rfl⟩
      ·
       refine qR rfl <| qC rfl rfl rfl rfl rfl <| qA rfl rfl rfl <| qN ?_
       refine zJ rfl (fun h10 => ?_) (fun h10 => ?_)
       ·
        refine zB <| qR rfl <| qA rfl rfl rfl <| qN <| zK ?_
        exact zQ (.inr rfl) zK3 rfl (.refl _) (.int _ _) ⟨by simp_all [partsF], rfl⟩
       ·
        refine zB <| qR rfl <| qC rfl rfl rfl rfl rfl <| qA rfl rfl rfl <| qN ?_
        refine zJ rfl (fun h13 => ?_) (fun h13 => ?_)
        ·
         refine zB <| qR rfl <| qA rfl rfl rfl <| qN <| zK ?_
         exact zQ (.inr rfl) zK3 rfl (.refl _) (.int _ _) ⟨by simp_all [partsF], rfl⟩
        ·
         refine zA0 <| zB <| qR rfl <| qA rfl rfl rfl <| qN <| zK ?_
         exact zQ (.inr rfl) zK3 rfl (.refl _) (.int _ _) ⟨by simp_all [partsF], rfl⟩
theorem rIs_spec (d : Nat) : d < 1000 → ∀ (s : Sch) (S : MS), MCalls Tryz.prog 66 [encS s, .int .i64 (d : Int)] S fun v σ' => v = .bool (isF d s) ∧ σ' = S := by
 induction d with
 | zero =>
  rintro - ⟨k, ins⟩ S
  refine zU Tryz.func66 rfl Tryz.ntmps66 (zA rfl) ?_
  refine zB <| qR rfl <| qB rfl rfl rfl rfl rfl <| qA rfl rfl rfl <| qN <| zB <| zB ?_
  refine zU0 [] [_] mo (by decide) rfl rfl rfl rfl ?_
  refine dO rfl rfl rfl (zV rfl rfl ⟨rfl, rfl⟩) <| dO rfl rfl rfl (zE2 rfl rfl rfl rfl ⟨rfl, rfl⟩) <| dO rfl rfl rfl (zV rfl rfl ⟨rfl, rfl⟩) <| dS rfl rfl <| dS rfl rfl <| dS rfl rfl <| dS rfl rfl <| dS rfl rfl <| dS rfl rfl <| dS rfl rfl <| dO rfl rfl rfl (zE1 rfl rfl rfl ⟨rfl, rfl⟩) <| zL0 <| zW rfl (rfl) <| zB <| qR rfl <| qA rfl rfl rfl <| qN <| zK ?_
  exact zQ (.inr rfl) Tryz.results66 rfl (.refl _) (.bool _) ⟨by simp [isF], rfl⟩
 | succ d ih =>
  rintro hd ⟨k, ins⟩ S
  have h0 : decide (((d + 1 : Nat) : Int) ≤ 0) = false := by simp <;> omega
  have hsub : IntKind.i64.wrap (((d + 1 : Nat) : Int) - 1) = (d : Int) := by rw [wrap_i64 (by omega)]; omega
  refine zU Tryz.func66 rfl Tryz.ntmps66 (zA rfl) ?_
  refine zB <| qR rfl <| qB rfl rfl rfl rfl rfl <| qA rfl rfl rfl <| qN <| zB <| zB ?_
  refine zU0 [] [_] mo (by decide) rfl rfl rfl rfl ?_
  refine dO rfl rfl rfl (zV rfl rfl ⟨rfl, rfl⟩) <| dO rfl rfl rfl (zE2 rfl rfl rfl rfl ⟨rfl, rfl⟩) ?_
  rw [h0]
  refine dO rfl rfl rfl (zV rfl rfl ⟨rfl, rfl⟩) <| dO rfl rfl rfl (zE rfl rfl zU2 ⟨rfl, rfl⟩) <| dO rfl rfl rfl (zD0 rfl rfl rfl ta22 rfl ⟨rfl, rfl⟩) <| dO rfl rfl rfl (zT1 rfl zR0 rfl ⟨rfl, rfl⟩) <| dO rfl rfl rfl (zE rfl rfl zG2 ⟨rfl, rfl⟩) <| dO rfl rfl rfl (zD0 rfl rfl rfl ta3 rfl ⟨rfl, rfl⟩) <| zS rfl rfl (.cons (zH1 rfl rfl rfl co115 (arity_spec _ _)) .nil) <| dO rfl rfl rfl (zE2 rfl rfl rfl rfl ⟨rfl, rfl⟩) <| dO rfl rfl rfl (zE1 rfl rfl rfl ⟨rfl, rfl⟩) <| zL0 ?_
  refine zJ rfl (fun h16 => ?_) (fun h16 => ?_)
  ·
   refine zB <| qR rfl <| qA rfl rfl rfl <| qN <| zK ?_
   exact zQ (.inr rfl) Tryz.results66 rfl (.refl _) (.bool _) ⟨by rw [zA3] at h16; simp at h16; simp [isF]; try (intro h; exact absurd h.symm h16), rfl⟩
  ·
   refine zN2 (t := 10) rfl fun hlen => ?_
   rw [zA3] at hlen
   refine zA0 <| zB <| zB <| qR rfl <| qA rfl rfl rfl <| qN <| zB0 ?_
   refine mwp_loop0 (α := Nat) (fun i => [(1, .int .i64 ((d + 1 : Nat) : Int)), (2, .ref (S.length + 0) 0), (5, .int .i64 (i : Int))]) (fun i => [.cells [.int .i64 k, .lst none 2 (encSs ins)]]) (fun i => i ≤ ins.length ∧ (ins.take i).all (isF d) = true) (fun i => ins.length - i) (0) ⟨by omega, rfl⟩ rfl (.keep rfl (.keep rfl (.keep rfl .nil))) ?_
   rintro i ⟨hi, hall⟩
   refine zB <| zB <| qR rfl <| qM rfl rfl rfl <| qF rfl rfl rfl zU2 <| qL rfl rfl rfl rfl ta22 rfl <| qE rfl rfl zR0 rfl <| qC rfl rfl rfl rfl rfl <| qN ?_
   refine zJ rfl (fun h21 => ?_) (fun h21 => ?_)
   ·
    have hlt : i < ins.length := by rw [zA3] at h21; simpa using h21
    obtain ⟨⟨k2, ins2⟩, hs⟩ : ∃ s, ins[i]? = some s := ⟨_, zD hlt⟩
    refine zA0 <| zB <| zB0 <| zB <| qR rfl <| qF rfl rfl rfl zU2 <| qL rfl rfl rfl rfl ta22 rfl <| qM rfl rfl rfl <| qO rfl <| zG rfl zR0 sz24 (by decide) rfl rfl rfl (encSs_get hs) ?_
    refine qO rfl <| zH rfl rfl ta24 rfl <| qM rfl rfl rfl <| qO rfl <| zY0 rfl rfl rfl rfl ?_
    rw [hsub]
    refine qX rfl rfl rfl rfl co66 (ih (by omega) (.mk k2 ins2) _) ?_
    refine qO rfl <| zG1 rfl rfl <| qN ?_
    refine zJ rfl (fun h32 => ?_) (fun h32 => ?_)
    ·
     refine zB <| qR rfl <| qA rfl rfl rfl <| qN <| zK ?_
     exact zQ (.inr rfl) Tryz.results66 rfl (.refl _) (.bool _) ⟨by simp only [isF]; rw [List.all_eq_false.2 ⟨_, zF0 hs, by simpa using h32⟩]; simp, rfl⟩
    ·
     refine zA0 <| qR rfl <| qM rfl rfl rfl <| qO rfl <| zY0 rfl rfl rfl rfl <| qA rfl rfl rfl <| qN ?_
     refine ⟨i + 1, by omega, ⟨by omega, ?_⟩, rfl, .keep rfl (.keep rfl (.eq rfl (zM1 hlt hlen) .nil))⟩
     rw [List.take_add_one, hs]
     simp [hall]
     simpa using h32
   ·
    have hge : i = ins.length := by rw [zA3] at h21; simp at h21; omega
    refine zN1 <| zB <| qR rfl <| qA rfl rfl rfl <| qN <| zK ?_
    exact zQ (.inr rfl) Tryz.results66 rfl (.refl _) (.bool _) ⟨by rw [hge, List.take_length] at hall; rw [zA3] at h16; simp at h16; simp [isF, hall, h16], rfl⟩
theorem rIsSchema_spec (s : Sch) (S : MS) : MCalls Tryz.prog 36 [encS s] S fun v σ' => v = .bool (isF 16 s) ∧ σ' = S := by
 obtain ⟨k, ins⟩ := s
 refine zU Tryz.func36 rfl Tryz.ntmps36 (zA rfl) ?_
 refine zB <| qR rfl <| qB rfl rfl rfl rfl rfl <| qA rfl rfl rfl <| qN <| zB <| qR rfl <| qL rfl rfl rfl rfl ta24 rfl ?_
 refine qX rfl rfl rfl rfl co66 (rIs_spec 16 (by omega) (.mk k ins) _) ?_
 refine qA rfl rfl rfl <| qN <| zK ?_
 exact zQ (.inr rfl) Tryz.results36 rfl (.refl _) (.bool _) ⟨rfl, rfl⟩
theorem withF_t (w n : Int) (t : Tk) (c : List Tk) : withF w n true (t :: c) = t :: withF w n true c := by rw [withF]
theorem withF_f (w n : Int) (t : Tk) (c : List Tk) : withF w n false (t :: c) = if w ≤ t.1 then (if t.1 = w then (w, if t.2 > n then t.2 else n) :: withF w n true c else (w, n) :: t :: withF w n true c) else t :: withF w n false c := by rw [withF]
theorem drop_cons {α : Type} {l : List α} {i : Nat} {a : α} (h : l[i]? = some a) : l.drop i = a :: l.drop (i + 1) := by
 obtain ⟨hlt, e⟩ := zI.1 h
 rw [List.drop_eq_getElem_cons hlt, e]
theorem rIsClock_spec (c : List Tk) (S : MS) : MCalls Tryz.prog 79 [.lst none 2 (c.map encT)] S fun v σ' => v = .bool (isClockF c) ∧ σ' = S := by
 refine zU Tryz.func79 rfl Tryz.ntmps79 (zA rfl) ?_
 refine zN2 (t := 0) rfl fun hlen => ?_
 rw [zC] at hlen
 refine zB <| qR rfl <| qA rfl rfl rfl <| qN <| zB <| zB <| qR rfl <| qA rfl rfl rfl <| qN <| zB0 ?_
 refine zV1 (α := Nat) [(0, _)] (fun i => [(3, .int .i64 (i : Int))]) (fun i => []) (fun i => i ≤ c.length ∧ ∀ j, j < i → okAt c j = true) (fun i => c.length - i) (0) (.keep rfl (.nil)) (.keep rfl (.nil)) (⟨by omega, fun j hj => by omega⟩) (rfl) ?_
 rintro i ⟨hi, hall⟩
 refine zB <| zB <| qR rfl <| qM rfl rfl rfl <| qM rfl rfl rfl <| qE rfl rfl zP rfl <| qC rfl rfl rfl rfl rfl <| qN ?_
 refine zJ rfl (fun h7 => ?_) (fun h7 => ?_)
 ·
  have hlt : i < c.length := by simpa using h7
  obtain ⟨t, hs⟩ : ∃ q_, c[i]? = some q_ := ⟨_, zD hlt⟩
  refine zA0 <| zB <| zB0 <| zB ?_
  refine zU0 [] [_] mo (by decide) rfl rfl rfl rfl ?_
  refine dO rfl rfl rfl (zV rfl rfl ⟨rfl, rfl⟩) <| dO rfl rfl rfl (zV rfl rfl ⟨rfl, rfl⟩) <| dO rfl rfl rfl (zG rfl zP sz59 (by decide) rfl rfl rfl (zV0 hs) ⟨rfl, rfl⟩) ?_
  refine dO rfl rfl rfl (zP0 rfl rfl zI3 ⟨rfl, rfl⟩) <| dO rfl rfl rfl (zH rfl rfl ta3 rfl ⟨rfl, rfl⟩) <| dO rfl rfl rfl (zE2 rfl rfl rfl rfl ⟨rfl, rfl⟩) <| dO rfl rfl rfl (zV rfl rfl ⟨rfl, rfl⟩) ?_
  refine zH2 (fun h16 => ?_) (fun h16 => ?_)
  ·
   refine dS rfl rfl <| dS rfl rfl <| dS rfl rfl <| dS rfl rfl <| dS rfl rfl <| dS rfl rfl <| dO rfl rfl rfl (zE1 rfl rfl rfl ⟨rfl, rfl⟩) <| dO rfl rfl rfl (zV rfl rfl ⟨rfl, rfl⟩) <| dS rfl rfl <| dS rfl rfl <| dS rfl rfl <| dS rfl rfl <| dS rfl rfl <| dS rfl rfl <| dO rfl rfl rfl (zE1 rfl rfl rfl ⟨rfl, rfl⟩) <| dO rfl rfl rfl (zV rfl rfl ⟨rfl, rfl⟩) <| dS rfl rfl <| dS rfl rfl <| dS rfl rfl <| dS rfl rfl <| dS rfl rfl <| dS rfl rfl <| dS rfl rfl <| dS rfl rfl <| dS rfl rfl <| dS rfl rfl <| dS rfl rfl <| dS rfl rfl <| dS rfl rfl <| dS rfl rfl ?_
   refine dS rfl rfl <| dS rfl rfl <| dO rfl rfl rfl (zE1 rfl rfl rfl ⟨rfl, rfl⟩) <| zL0 <| zW rfl (rfl) <| zB <| qR rfl <| qA rfl rfl rfl <| qN <| zK ?_
   exact zQ (.inr rfl) Tryz.results79 rfl (.of_eq (by rw [zZ3 hlt (by simp_all [okAt] <;> omega)])) (.bool _) ⟨rfl, rfl⟩
  ·
   refine dO rfl rfl rfl (zV rfl rfl ⟨rfl, rfl⟩) <| dO rfl rfl rfl (zV rfl rfl ⟨rfl, rfl⟩) <| dO rfl rfl rfl (zG rfl zP sz59 (by decide) rfl rfl rfl (zV0 hs) ⟨rfl, rfl⟩) ?_
   refine dO rfl rfl rfl (zP0 rfl rfl zI3 ⟨rfl, rfl⟩) <| dO rfl rfl rfl (zH rfl rfl ta3 rfl ⟨rfl, rfl⟩) <| dO rfl rfl rfl (zE2 rfl rfl rfl rfl ⟨rfl, rfl⟩) <| dO rfl rfl rfl (zE1 rfl rfl rfl ⟨rfl, rfl⟩) <| dO rfl rfl rfl (zV rfl rfl ⟨rfl, rfl⟩) ?_
   refine zH2 (fun h24 => ?_) (fun h24 => ?_)
   ·
    refine dS rfl rfl <| dS rfl rfl <| dS rfl rfl <| dS rfl rfl <| dS rfl rfl <| dS rfl rfl <| dO rfl rfl rfl (zE1 rfl rfl rfl ⟨rfl, rfl⟩) <| dO rfl rfl rfl (zV rfl rfl ⟨rfl, rfl⟩) <| dS rfl rfl <| dS rfl rfl <| dS rfl rfl <| dS rfl rfl <| dS rfl rfl <| dS rfl rfl <| dS rfl rfl <| dS rfl rfl <| dS rfl rfl <| dS rfl rfl <| dS rfl rfl <| dS rfl rfl <| dS rfl rfl <| dS rfl rfl <| dS rfl rfl <| dS rfl rfl <| dO rfl rfl rfl (zE1 rfl rfl rfl ⟨rfl, rfl⟩) <| zL0 <| zW rfl (rfl) <| zB <| qR rfl <| qA rfl rfl rfl ?_
    refine qN <| zK ?_
    exact zQ (.inr rfl) Tryz.results79 rfl (.of_eq (by rw [zZ3 hlt (by simp_all [okAt] <;> omega)])) (.bool _) ⟨rfl, rfl⟩
   ·
    refine dO rfl rfl rfl (zV rfl rfl ⟨rfl, rfl⟩) <| dO rfl rfl rfl (zV rfl rfl ⟨rfl, rfl⟩) <| dO rfl rfl rfl (zG rfl zP sz59 (by decide) rfl rfl rfl (zV0 hs) ⟨rfl, rfl⟩) ?_
    refine dO rfl rfl rfl (zP0 rfl rfl zZ4 ⟨rfl, rfl⟩) <| dO rfl rfl rfl (zH rfl rfl ta25 rfl ⟨rfl, rfl⟩) <| dO rfl rfl rfl (zE2 rfl rfl rfl rfl ⟨rfl, rfl⟩) <| dO rfl rfl rfl (zE1 rfl rfl rfl ⟨rfl, rfl⟩) <| dO rfl rfl rfl (zV rfl rfl ⟨rfl, rfl⟩) ?_
    refine zH2 (fun h32 => ?_) (fun h32 => ?_)
    ·
     refine dS rfl rfl <| dS rfl rfl <| dS rfl rfl <| dS rfl rfl <| dS rfl rfl <| dS rfl rfl <| dS rfl rfl <| dS rfl rfl <| dS rfl rfl <| dS rfl rfl <| dS rfl rfl <| dS rfl rfl <| dS rfl rfl <| dS rfl rfl <| dS rfl rfl <| dS rfl rfl <| dO rfl rfl rfl (zE1 rfl rfl rfl ⟨rfl, rfl⟩) <| zL0 <| zW rfl (rfl) <| zB <| qR rfl <| qA rfl rfl rfl <| qN <| zK ?_
     exact zQ (.inr rfl) Tryz.results79 rfl (.of_eq (by rw [zZ3 hlt (by simp_all [okAt] <;> omega)])) (.bool _) ⟨rfl, rfl⟩
    ·
     refine dO rfl rfl rfl (zV rfl rfl ⟨rfl, rfl⟩) <| dO rfl rfl rfl (zE2 rfl rfl rfl rfl ⟨rfl, rfl⟩) <| dO rfl rfl rfl (zV rfl rfl ⟨rfl, rfl⟩) ?_
     refine zH2 (fun h35 => ?_) (fun h35 => ?_)
     ·
      have hi0 : 0 < i := by simpa using h35
      obtain ⟨p, hp⟩ : ∃ a, c[i - 1]? = some a := ⟨_, zD (by omega)⟩
      refine dO rfl rfl rfl (zV rfl rfl ⟨rfl, rfl⟩) <| dO rfl rfl rfl (zV rfl rfl ⟨rfl, rfl⟩) <| dO rfl rfl rfl (zY0 rfl rfl rfl (wsub (a := i) (b := 1) (c := i - 1) (by omega) (by simp only [maxLen] at hlen; omega)) ⟨rfl, rfl⟩) ?_
      refine dO rfl rfl rfl (zG rfl zP sz59 (by decide) rfl rfl rfl (zV0 hp) ⟨rfl, rfl⟩) ?_
      refine dO rfl rfl rfl (zP0 rfl rfl zI3 ⟨rfl, rfl⟩) <| dO rfl rfl rfl (zH rfl rfl ta3 rfl ⟨rfl, rfl⟩) <| dO rfl rfl rfl (zV rfl rfl ⟨rfl, rfl⟩) <| dO rfl rfl rfl (zV rfl rfl ⟨rfl, rfl⟩) <| dO rfl rfl rfl (zG rfl zP sz59 (by decide) rfl rfl rfl (zV0 hs) ⟨rfl, rfl⟩) ?_
      refine dO rfl rfl rfl (zP0 rfl rfl zI3 ⟨rfl, rfl⟩) <| dO rfl rfl rfl (zH rfl rfl ta3 rfl ⟨rfl, rfl⟩) <| dO rfl rfl rfl (zE2 rfl rfl rfl rfl ⟨rfl, rfl⟩) <| dO rfl rfl rfl (zE1 rfl rfl rfl ⟨rfl, rfl⟩) <| dO rfl rfl rfl (zE1 rfl rfl rfl ⟨rfl, rfl⟩) <| zL0 ?_
      refine zJ rfl (fun h49 => ?_) (fun h49 => ?_)
      ·
       refine zB <| qR rfl <| qA rfl rfl rfl <| qN <| zK ?_
       exact zQ (.inr rfl) Tryz.results79 rfl (.of_eq (by rw [zZ3 hlt (by simp_all [okAt] <;> omega)])) (.bool _) ⟨rfl, rfl⟩
      ·
       refine zA0 <| qR rfl <| qM rfl rfl rfl <| qO rfl <| zY0 rfl rfl rfl rfl <| qA rfl rfl rfl <| qN ?_
       refine ⟨i + 1, by omega, ⟨by omega, fun j hj => ?_⟩, rfl, (.keep rfl (.nil)), (.eq rfl (zM1 hlt hlen) (.nil))⟩
       by_cases e : j = i
       ·subst e; simp_all [okAt]
       ·exact hall j (by omega)
     ·
      refine dS rfl rfl <| dS rfl rfl <| dS rfl rfl <| dS rfl rfl <| dS rfl rfl <| dS rfl rfl <| dS rfl rfl <| dS rfl rfl <| dS rfl rfl <| dS rfl rfl <| dS rfl rfl <| dS rfl rfl <| dO rfl rfl rfl (zE1 rfl rfl rfl ⟨rfl, rfl⟩) <| dO rfl rfl rfl (zE1 rfl rfl rfl ⟨rfl, rfl⟩) <| zL0 <| zL rfl (rfl) <| zA0 <| qR rfl <| qM rfl rfl rfl <| qO rfl <| zY0 rfl rfl rfl rfl <| qA rfl rfl rfl <| qN ?_
      refine ⟨i + 1, by omega, ⟨by omega, fun j hj => ?_⟩, rfl, (.keep rfl (.nil)), (.eq rfl (zM1 hlt hlen) (.nil))⟩
      by_cases e : j = i
      ·subst e; simp_all [okAt]
      ·exact hall j (by omega)
 ·
  have hge : i = c.length := by simp at h7; omega
  refine zN1 <| zB <| qR rfl <| qM rfl rfl rfl <| qE rfl rfl zP rfl <| qC rfl rfl rfl rfl rfl <| qA rfl rfl rfl <| qN <| zK ?_
  exact zQ (.inr rfl) Tryz.results79 rfl (.of_eq (by rw [isClock_end (fun j hj => hall j (by omega)), zC])) (.bool _) ⟨rfl, rfl⟩
theorem rOf_spec (c : List Tk) (w : Int) (S : MS) : MCalls Tryz.prog 150 [.lst none 2 (c.map encT), .int .i64 w] S fun v σ' => v = .int .u64 (ofF c w) ∧ σ' = S := by
 refine zU Tryz.func150 rfl Tryz.ntmps150 (zA rfl) ?_
 refine zN2 (t := 0) rfl fun hlen => ?_
 rw [zC] at hlen
 refine zB <| qR rfl <| qA rfl rfl rfl <| qN <| zB <| zB <| qR rfl <| qA rfl rfl rfl <| qN <| zB0 ?_
 refine zV1 (α := Nat) [(0, _), (1, _)] (fun i => [(5, .int .i64 (i : Int))]) (fun i => []) (fun i => i ≤ c.length ∧ ∀ j, j < i → ∀ t, c[j]? = some t → t.1 ≠ w) (fun i => c.length - i) (0) (.keep rfl (.keep rfl (.nil))) (.keep rfl (.nil)) (⟨by omega, fun j hj => by omega⟩) (rfl) ?_
 rintro i ⟨hi, hall⟩
 refine zB <| zB <| qR rfl <| qM rfl rfl rfl <| qM rfl rfl rfl <| qE rfl rfl zP rfl <| qC rfl rfl rfl rfl rfl <| qN ?_
 refine zJ rfl (fun h9 => ?_) (fun h9 => ?_)
 ·
  have hlt : i < c.length := by simpa using h9
  obtain ⟨t, hs⟩ : ∃ q_, c[i]? = some q_ := ⟨_, zD hlt⟩
  refine zA0 <| zB <| zB0 <| zB <| qR rfl <| qM rfl rfl rfl <| qM rfl rfl rfl <| qO rfl <| zG rfl zP sz59 (by decide) rfl rfl rfl (zV0 hs) ?_
  refine qO rfl <| zP0 rfl rfl zI3 <| qO rfl <| zH rfl rfl ta3 rfl <| qM rfl rfl rfl <| qC rfl rfl rfl rfl rfl <| qN ?_
  refine zJ rfl (fun h18 => ?_) (fun h18 => ?_)
  ·
   refine zB <| qR rfl <| qM rfl rfl rfl <| qM rfl rfl rfl <| qO rfl <| zG rfl zP sz59 (by decide) rfl rfl rfl (zV0 hs) ?_
   refine qO rfl <| zP0 rfl rfl zZ4 <| qO rfl <| zH rfl rfl ta25 rfl <| qA rfl rfl rfl <| qN <| zK ?_
   exact zQ (.inr rfl) Tryz.results150 rfl (.of_eq (by rw [← of_drop hall, drop_cons hs, ofF, if_pos (by simpa using h18)])) (.int _ _) ⟨rfl, rfl⟩
  ·
   refine zA0 <| qR rfl <| qM rfl rfl rfl <| qO rfl <| zY0 rfl rfl rfl rfl <| qA rfl rfl rfl <| qN ?_
   refine ⟨i + 1, by omega, ⟨by omega, fun j hj s hj2 => ?_⟩, rfl, (.keep rfl (.keep rfl (.nil))), (.eq rfl (zM1 hlt hlen) (.nil))⟩
   by_cases e : j = i
   ·subst e; rw [hs] at hj2; injection hj2 with hj2; subst hj2; simpa using h18
   ·exact hall j (by omega) s hj2
 ·
  have hge : i = c.length := by simp at h9; omega
  refine zN1 <| zB <| qR rfl <| qA rfl rfl rfl <| qN <| zK ?_
  exact zQ (.inr rfl) Tryz.results150 rfl (.of_eq (by rw [← of_drop hall, hge, List.drop_length]; rfl)) (.int _ _) ⟨rfl, rfl⟩
theorem rSameC_spec (a b : List Tk) (S : MS) : MCalls Tryz.prog 40 [.lst none 2 (a.map encT), .lst none 2 (b.map encT)] S fun v σ' => v = .bool (decide (a = b)) ∧ σ' = S := by
 refine zU Tryz.func40 rfl Tryz.ntmps40 (zA rfl) ?_
 refine zN2 (t := 0) rfl fun hlen => ?_
 rw [zC] at hlen
 refine zB <| qR rfl <| qA rfl rfl rfl <| qN <| zB <| zB <| qR rfl <| qM rfl rfl rfl <| qE rfl rfl zP rfl <| qM rfl rfl rfl <| qE rfl rfl zP rfl <| qC rfl rfl rfl rfl rfl <| qN ?_
 refine zJ rfl (fun h10 => ?_) (fun h10 => ?_)
 ·
  refine zB <| qR rfl <| qA rfl rfl rfl <| qN <| zK ?_
  exact zQ (.inr rfl) Tryz.results40 rfl (.of_eq (by congr 1; symm; rw [decide_eq_false_iff_not]; intro e; subst e; simp at h10)) (.bool _) ⟨rfl, rfl⟩
 ·
  have hab : a.length = b.length := by simp at h10; omega
  refine zA0 <| zB <| zB <| qR rfl <| qA rfl rfl rfl <| qN <| zB0 ?_
  refine zV1 (α := Nat) [(0, _), (1, _)] (fun i => [(5, .int .i64 (i : Int))]) (fun i => []) (fun i => i ≤ a.length ∧ a.take i = b.take i) (fun i => a.length - i) (0) (.keep rfl (.keep rfl (.nil))) (.keep rfl (.nil)) (⟨by omega, rfl⟩) (rfl) ?_
  rintro i ⟨hi, heq⟩
  refine zB <| zB <| qR rfl <| qM rfl rfl rfl <| qM rfl rfl rfl <| qE rfl rfl zP rfl <| qC rfl rfl rfl rfl rfl <| qN ?_
  refine zJ rfl (fun h14 => ?_) (fun h14 => ?_)
  ·
   have hlt : i < a.length := by simpa using h14
   obtain ⟨x, hs⟩ : ∃ q_, a[i]? = some q_ := ⟨_, zD hlt⟩
   obtain ⟨y, hs2⟩ : ∃ s, b[i]? = some s := ⟨_, zD (by omega)⟩
   refine zA0 <| zB <| zB0 <| zB ?_
   refine zU0 [] [_] mo (by decide) rfl rfl rfl rfl ?_
   refine dO rfl rfl rfl (zV rfl rfl ⟨rfl, rfl⟩) <| dO rfl rfl rfl (zV rfl rfl ⟨rfl, rfl⟩) <| dO rfl rfl rfl (zG rfl zP sz59 (by decide) rfl rfl rfl (zV0 hs) ⟨rfl, rfl⟩) ?_
   refine dO rfl rfl rfl (zH rfl rfl ta59 rfl ⟨rfl, rfl⟩) <| dO rfl rfl rfl (zV rfl rfl ⟨rfl, rfl⟩) <| dO rfl rfl rfl (zV rfl rfl ⟨rfl, rfl⟩) <| dO rfl rfl rfl (zG rfl zP sz59 (by decide) rfl rfl rfl (zV0 hs2) ⟨rfl, rfl⟩) ?_
   refine dO rfl rfl rfl (zH rfl rfl ta59 rfl ⟨rfl, rfl⟩) <| zS rfl rfl (.cons (op_eqstruct rfl (by kernel_rfl) rfl rfl rfl (.inr ⟨rfl, rfl⟩) ⟨rfl, rfl⟩) .nil) ?_
   refine zL0 ?_
   refine zJ rfl (fun h25 => ?_) (fun h25 => ?_)
   ·
    refine zB <| qR rfl <| qA rfl rfl rfl <| qN <| zK ?_
    exact zQ (.inr rfl) Tryz.results40 rfl (.of_eq (by congr 1; symm; rw [decide_eq_false_iff_not]; intro e; subst e; rw [hs2] at hs; injection hs with hs; subst hs; simp at h25)) (.bool _) ⟨rfl, rfl⟩
   ·
    refine zA0 <| qR rfl <| qM rfl rfl rfl <| qO rfl <| zY0 rfl rfl rfl rfl <| qA rfl rfl rfl <| qN ?_
    refine ⟨i + 1, by omega, ⟨by omega, ?_⟩, rfl, (.keep rfl (.keep rfl (.nil))), (.eq rfl (zM1 hlt hlen) (.nil))⟩
    rw [List.take_add_one, List.take_add_one, hs, hs2, heq]
    obtain ⟨x1, x2⟩ := x; obtain ⟨y1, y2⟩ := y
    simp at h25
    rw [h25.1, h25.2]
  ·
   have hge : i = a.length := by simp at h14; omega
   refine zN1 <| zB <| qR rfl <| qA rfl rfl rfl <| qN <| zK ?_
   exact zQ (.inr rfl) Tryz.results40 rfl (.of_eq (by congr 1; symm; rw [decide_eq_true_iff]; rw [hge, List.take_length, hab, List.take_length] at heq; exact heq)) (.bool _) ⟨rfl, rfl⟩
theorem rwith_spec (c : List Tk) (w n : Int) (hc : c.length + 3 ≤ 1000000) (S : MS) : MCalls Tryz.prog 109 [.lst none 2 (c.map encT), .int .i64 w, .int .u64 n] S fun v σ' => v = .lst none 2 ((rwith c w n).map encT) ∧ σ' = S := by
 refine zU Tryz.func109 rfl Tryz.ntmps109 (zA rfl) ?_
 refine zN2 (t := 0) rfl fun hlen => ?_
 rw [zC] at hlen
 refine zB <| qR rfl <| qA rfl rfl rfl <| qN <| zB <| qR rfl <| qA rfl rfl rfl <| qN <| zB <| qR rfl <| qM rfl rfl rfl <| qC rfl rfl rfl rfl rfl <| qA rfl rfl rfl <| qN <| zB <| zB <| qR rfl <| qA rfl rfl rfl <| qN <| zB0 <| mwp_row0 7 59 2 rfl (Nat.le_refl _) rfl rfl ?_
 refine zR4 (α := Nat × Bool × List Tk) [(0, _), (1, _), (2, _)] (fun x => [(9, .int .i64 (x.1 : Int)), (8, .bool x.2.1), (7, .lst (some (S.length + 0)) 2 (x.2.2.map encT))]) (fun x => [.row 59 2 x.2.2.length]) (fun x => x.1 ≤ c.length ∧ x.2.2 ++ withF w n x.2.1 (c.drop x.1) = withF w n (n == 0) c) (fun x => c.length - x.1) (⟨0, n == 0, []⟩) (Nat.le_refl _) (.keep rfl (.keep rfl (.keep rfl (.nil)))) (.keep rfl (.keep rfl (.keep rfl (.nil)))) (⟨by simp, rfl⟩) (rfl) ?_
 rintro ⟨i, dn, out⟩ ⟨hi, he⟩
 dsimp only at hi he ⊢
 have hol : out.length ≤ c.length + 1 := by have h1 := congrArg List.length he; have h2 := with_len w n (n == 0) c; rw [zN] at h1; omega
 refine zB <| zB <| qR rfl <| qM rfl rfl rfl <| qM rfl rfl rfl <| qE rfl rfl zP rfl <| qC rfl rfl rfl rfl rfl <| qN ?_
 refine zJ rfl (fun h16 => ?_) (fun h16 => ?_)
 ·
  have hlt : i < c.length := by simpa using h16
  obtain ⟨t, hs⟩ : ∃ q_, c[i]? = some q_ := ⟨_, zD hlt⟩
  have hdr := drop_cons hs
  refine zA0 <| zB <| zB0 <| zB <| zB ?_
  cases hd : dn
  ·
   rw [hd] at he
   refine qR rfl <| qM rfl rfl rfl <| qO rfl <| zG1 rfl rfl <| qM rfl rfl rfl <| qM rfl rfl rfl <| qM rfl rfl rfl <| qO rfl <| zG rfl zP sz59 (by decide) rfl rfl rfl (zV0 hs) ?_
   refine qO rfl <| zP0 rfl rfl zI3 <| qO rfl <| zH rfl rfl ta3 rfl <| qM rfl rfl rfl <| qC rfl rfl rfl rfl rfl <| qP rfl rfl rfl rfl <| qN ?_
   refine zJ rfl (fun h29 => ?_) (fun h29 => ?_)
   ·
    refine zB <| qR rfl <| qM rfl rfl rfl <| qM rfl rfl rfl <| qO rfl <| zW1 rfl zL6 zm59 (.cons zI3 sz3 rfl rfl (zA rfl) (.cons zZ4 sz25 rfl rfl (zA rfl) .nil)) (by kernel_rfl) ?_
    refine qO rfl <| zN0 rfl zm59 rfl rfl <| qO rfl <| zH0 rfl rfl rfl rfl sz59 rfl rfl (zA rfl) rfl <| qN <| zB <| zB <| qR rfl <| qM rfl rfl rfl <| qM rfl rfl rfl <| qO rfl <| zG rfl zP sz59 (by decide) rfl rfl rfl (zV0 hs) ?_
    refine qO rfl <| zP0 rfl rfl zI3 <| qO rfl <| zH rfl rfl ta3 rfl <| qM rfl rfl rfl <| qC rfl rfl rfl rfl rfl <| qN ?_
    refine zJ rfl (fun h39 => ?_) (fun h39 => ?_)
    ·
     refine qR rfl <| qM rfl rfl rfl <| qM rfl rfl rfl <| qM rfl rfl rfl <| qO rfl <| zG rfl zP sz59 (by decide) rfl rfl rfl (zV0 hs) ?_
     refine qO rfl <| zP0 rfl rfl zZ4 <| qO rfl <| zH rfl rfl ta25 rfl <| qO rfl <| op_max2 rfl rfl rfl <| qF rfl rfl rfl zZ4 <| qO rfl <| zH0 rfl rfl rfl rfl sz25 rfl rfl (zA rfl) rfl <| qN <| zB <| qR rfl <| qM rfl rfl rfl <| qL rfl rfl rfl rfl ta59 rfl <| qO rfl <| zC1 rfl zP el59 rfl rfl (by decide) (by decide) rfl rfl ?_
     refine qO rfl <| zC2 rfl zP el59 rfl rfl rfl (by simp) (by simp only [zY, List.length_nil, zC, zN]; omega) (by simp only [zY, List.length_nil, zC, zN]; omega) rfl ?_
     refine qA rfl rfl rfl <| qA rfl rfl rfl <| qN <| zB <| qR rfl <| qM rfl rfl rfl <| qM rfl rfl rfl <| qO rfl <| zG rfl zP sz59 (by decide) rfl rfl rfl (zV0 hs) ?_
     refine qO rfl <| zP0 rfl rfl zI3 <| qO rfl <| zH rfl rfl ta3 rfl <| qM rfl rfl rfl <| qC rfl rfl rfl rfl rfl <| qN <| zW rfl (h39) <| zN1 <| qR rfl <| qM rfl rfl rfl <| qO rfl <| zY0 rfl rfl rfl rfl <| qA rfl rfl rfl <| qN ?_
     simp only [decide_eq_true_eq, beq_iff_eq] at h29 h39
     refine ⟨⟨i + 1, true, out ++ [(w, if t.2 > n then t.2 else n)]⟩, _, by dsimp only; omega, ⟨by dsimp only; omega, by dsimp only; rw [← he, hdr, withF_f, if_pos h29, if_pos h39]; simp⟩, by rw [zN]; rfl, .new trivial .nil, (.old rfl rfl (.old rfl rfl (.old rfl rfl (.nil)))), (.new' rfl (zM1 hlt hlen) (.int _ _) (.new' rfl (rfl) (.bool _) (.new' rfl (by rw [List.map_append]; rfl) (zR5 (by simp) (cl_encT _) encT_agg) (.nil))))⟩
    ·
     refine zA0 <| zB <| qR rfl <| qM rfl rfl rfl <| qL rfl rfl rfl rfl ta59 rfl <| qO rfl <| zC1 rfl zP el59 rfl rfl (by decide) (by decide) rfl rfl ?_
     refine qO rfl <| zC2 rfl zP el59 rfl rfl rfl (by simp) (by simp only [zY, List.length_nil, zC, zN]; omega) (by simp only [zY, List.length_nil, zC, zN]; omega) rfl ?_
     refine qA rfl rfl rfl <| qA rfl rfl rfl <| qN <| zB <| qR rfl <| qM rfl rfl rfl <| qM rfl rfl rfl <| qO rfl <| zG rfl zP sz59 (by decide) rfl rfl rfl (zV0 hs) ?_
     refine qO rfl <| zP0 rfl rfl zI3 <| qO rfl <| zH rfl rfl ta3 rfl <| qM rfl rfl rfl <| qC rfl rfl rfl rfl rfl <| qN <| zL rfl (h39) <| zA0 <| qR rfl <| qM rfl rfl rfl <| qM rfl rfl rfl <| qM rfl rfl rfl <| qO rfl <| zG rfl zP sz59 (by decide) rfl rfl rfl (zV0 hs) ?_
     refine qO rfl <| zH rfl rfl ta59 rfl <| qO rfl <| zC1 rfl zP el59 rfl rfl (by decide) (by decide) rfl rfl ?_
     refine qO rfl <| zC2 rfl zP el59 rfl rfl rfl (by simp) (by simp only [zY, List.length_nil, zC, zN]; omega) (by simp only [zY, List.length_nil, zC, zN]; omega) rfl ?_
     refine qA rfl rfl rfl <| qN <| qR rfl <| qM rfl rfl rfl <| qO rfl <| zY0 rfl rfl rfl rfl <| qA rfl rfl rfl <| qN ?_
     simp only [decide_eq_true_eq, beq_eq_false_iff_ne] at h29 h39
     refine ⟨⟨i + 1, true, (out ++ [(w, n)]) ++ [t]⟩, _, by dsimp only; omega, ⟨by dsimp only; omega, by dsimp only; rw [← he, hdr, withF_f, if_pos h29, if_neg h39]; simp⟩, by rw [zN, zN]; rfl, .new trivial .nil, (.old rfl rfl (.old rfl rfl (.old rfl rfl (.nil)))), (.new' rfl (zM1 hlt hlen) (.int _ _) (.new' rfl (rfl) (.bool _) (.new' rfl (by rw [List.map_append, List.map_append]; rfl) (zR5 (by simp) (cl_encT _) encT_agg) (.nil))))⟩
   ·
    refine zA0 <| qR rfl <| qM rfl rfl rfl <| qM rfl rfl rfl <| qM rfl rfl rfl <| qO rfl <| zG rfl zP sz59 (by decide) rfl rfl rfl (zV0 hs) ?_
    refine qO rfl <| zH rfl rfl ta59 rfl <| qO rfl <| zC1 rfl zP el59 rfl rfl (by decide) (by decide) rfl rfl ?_
    refine qO rfl <| zC2 rfl zP el59 rfl rfl rfl (by simp) (by simp only [zY, List.length_nil, zC, zN]; omega) (by simp only [zY, List.length_nil, zC, zN]; omega) rfl ?_
    refine qA rfl rfl rfl <| qN <| qR rfl <| qM rfl rfl rfl <| qO rfl <| zY0 rfl rfl rfl rfl <| qA rfl rfl rfl <| qN ?_
    simp only [decide_eq_false_iff_not] at h29
    refine ⟨⟨i + 1, false, out ++ [t]⟩, _, by dsimp only; omega, ⟨by dsimp only; omega, by dsimp only; rw [← he, hdr, withF_f, if_neg h29]; simp⟩, by rw [zN]; rfl, .new trivial .nil, (.old rfl rfl (.old rfl rfl (.old rfl rfl (.nil)))), (.new' rfl (zM1 hlt hlen) (.int _ _) (.new' rfl (rfl) (.bool _) (.new' rfl (by rw [List.map_append]; rfl) (zR5 (by simp) (cl_encT _) encT_agg) (.nil))))⟩
  ·
   rw [hd] at he
   refine qR rfl <| qM rfl rfl rfl <| qO rfl <| zG1 rfl rfl <| qM rfl rfl rfl <| qT rfl rfl rfl rfl <| qS rfl <| qS rfl <| qS rfl <| qP rfl rfl rfl rfl <| qN <| zL rfl (rfl) <| zA0 <| qR rfl <| qM rfl rfl rfl <| qM rfl rfl rfl <| qM rfl rfl rfl <| qO rfl <| zG rfl zP sz59 (by decide) rfl rfl rfl (zV0 hs) ?_
   refine qO rfl <| zH rfl rfl ta59 rfl <| qO rfl <| zC1 rfl zP el59 rfl rfl (by decide) (by decide) rfl rfl ?_
   refine qO rfl <| zC2 rfl zP el59 rfl rfl rfl (by simp) (by simp only [zY, List.length_nil, zC, zN]; omega) (by simp only [zY, List.length_nil, zC, zN]; omega) rfl ?_
   refine qA rfl rfl rfl <| qN <| qR rfl <| qM rfl rfl rfl <| qO rfl <| zY0 rfl rfl rfl rfl <| qA rfl rfl rfl <| qN ?_
   refine ⟨⟨i + 1, true, out ++ [t]⟩, _, by dsimp only; omega, ⟨by dsimp only; omega, by dsimp only; rw [← he, hdr, withF_t]; simp⟩, by rw [zN]; rfl, .new trivial .nil, (.old rfl rfl (.old rfl rfl (.old rfl rfl (.nil)))), (.new' rfl (zM1 hlt hlen) (.int _ _) (.new' rfl (rfl) (.bool _) (.new' rfl (by rw [List.map_append]; rfl) (zR5 (by simp) (cl_encT _) encT_agg) (.nil))))⟩
 ·
  have hge : i = c.length := by simp at h16; omega
  refine zN1 <| zB <| zB <| qR rfl <| qM rfl rfl rfl <| qO rfl <| zG1 rfl rfl <| qN ?_
  refine zJ rfl (fun h67 => ?_) (fun h67 => ?_)
  ·
   refine qR rfl <| qM rfl rfl rfl <| qM rfl rfl rfl <| qM rfl rfl rfl <| qO rfl <| zW1 rfl zL6 zm59 (.cons zI3 sz3 rfl rfl (zA rfl) (.cons zZ4 sz25 rfl rfl (zA rfl) .nil)) (by kernel_rfl) ?_
   refine qO rfl <| zC1 rfl zP el59 rfl rfl (by decide) (by decide) rfl rfl ?_
   refine qO rfl <| zC2 rfl zP el59 rfl rfl rfl (by simp) (by simp only [zY, List.length_nil, zC, zN]; omega) (by simp only [zY, List.length_nil, zC, zN]; omega) rfl ?_
   refine qA rfl rfl rfl <| qN <| zB <| qR rfl <| qM rfl rfl rfl <| qA rfl rfl rfl <| qN <| zK ?_
   have hd : dn = false := by simpa using h67
   exact zQ (.inr rfl) Tryz.results109 rfl (Sub.trans (.view _ _ _) (.of_eq (by show _ = MV.lst none 2 ((withF w n (n == 0) c).map encT); rw [← he, hd, hge, List.drop_length, withF, List.map_append]; rfl))) (cl_clock _ _) ⟨rfl, rfl⟩
  ·
   refine zA0 <| zB <| qR rfl <| qM rfl rfl rfl <| qA rfl rfl rfl <| qN <| zK ?_
   have hd : dn = true := by simpa using h67
   exact zQ (.inr rfl) Tryz.results109 rfl (Sub.trans (.view _ _ _) (.of_eq (by show _ = MV.lst none 2 ((withF w n (n == 0) c).map encT); rw [← he, hd, hge, List.drop_length, withF, List.append_nil]))) (cl_clock _ _) ⟨rfl, rfl⟩
theorem rJoinC_spec (a b : List Tk) (hab : a.length + b.length + 3 ≤ 1000000) (S : MS) : MCalls Tryz.prog 61 [.lst none 2 (a.map encT), .lst none 2 (b.map encT)] S fun v σ' => v = .lst none 2 ((rjoinF a b).map encT) ∧ σ' = S := by
 refine zU Tryz.func61 rfl Tryz.ntmps61 (zA rfl) ?_
 refine zN2 (t := 1) rfl fun hlen => ?_
 rw [zC] at hlen
 refine zB <| qR rfl <| qA rfl rfl rfl <| qN <| zB <| qR rfl <| qM rfl rfl rfl <| qO rfl <| zA5 rfl zP el59 rfl rfl (by rw [zC]; omega) (by rw [zC]; omega) rfl rfl ?_
 refine qA rfl rfl rfl <| qN <| zB <| zB <| qR rfl <| qA rfl rfl rfl <| qN <| zB0 ?_
 refine zV1 (α := Nat × List Tk) [(1, _)] (fun x => [(6, .int .i64 (x.1 : Int)), (5, .lst none 2 (x.2.map encT))]) (fun x => [.row 59 2 (a.map encT).length]) (fun x => x.1 ≤ b.length ∧ x.2.length ≤ a.length + x.1 ∧ rjoinF x.2 (b.drop x.1) = rjoinF a b) (fun x => b.length - x.1) (⟨0, a⟩) (.keep rfl (.nil)) (.keep rfl (.cons rfl (.view _ _ _) (.nil))) (⟨by simp, by simp, rfl⟩) (rfl) ?_
 rintro ⟨i, out⟩ ⟨hi, hol, he⟩
 dsimp only at hi hol he ⊢
 refine zB <| zB <| qR rfl <| qM rfl rfl rfl <| qM rfl rfl rfl <| qE rfl rfl zP rfl <| qC rfl rfl rfl rfl rfl <| qN ?_
 refine zJ rfl (fun h12 => ?_) (fun h12 => ?_)
 ·
  have hlt : i < b.length := by simpa using h12
  obtain ⟨t, hs⟩ : ∃ q_, b[i]? = some q_ := ⟨_, zD hlt⟩
  refine zA0 <| zB <| zB0 ?_
  refine zU0 [] [_] mo (by decide) rfl rfl rfl rfl ?_
  refine dO rfl rfl rfl (zV rfl rfl ⟨rfl, rfl⟩) <| dO rfl rfl rfl (zV rfl rfl ⟨rfl, rfl⟩) <| dO rfl rfl rfl (zV rfl rfl ⟨rfl, rfl⟩) <| dO rfl rfl rfl (zG rfl zP sz59 (by decide) rfl rfl rfl (zV0 hs) ⟨rfl, rfl⟩) ?_
  refine dO rfl rfl rfl (zP0 rfl rfl zI3 ⟨rfl, rfl⟩) <| dO rfl rfl rfl (zH rfl rfl ta3 rfl ⟨rfl, rfl⟩) <| dO rfl rfl rfl (zV rfl rfl ⟨rfl, rfl⟩) <| dO rfl rfl rfl (zV rfl rfl ⟨rfl, rfl⟩) <| dO rfl rfl rfl (zG rfl zP sz59 (by decide) rfl rfl rfl (zV0 hs) ⟨rfl, rfl⟩) ?_
  refine dO rfl rfl rfl (zP0 rfl rfl zZ4 ⟨rfl, rfl⟩) <| dO rfl rfl rfl (zH rfl rfl ta25 rfl ⟨rfl, rfl⟩) <| zS rfl rfl (.cons (zH1 rfl rfl rfl co109 (rwith_spec out t.1 t.2 (by omega) _)) .nil) ?_
  refine dO rfl rfl rfl (zB1 rfl rfl ⟨rfl, rfl⟩) <| zL0 <| qR rfl <| qM rfl rfl rfl <| qO rfl <| zY0 rfl rfl rfl rfl <| qA rfl rfl rfl <| qN ?_
  refine ⟨⟨i + 1, rwith out t.1 t.2⟩, by dsimp only; omega, ⟨by dsimp only; omega, by have := rwith_len out t.1 t.2; dsimp only; omega, by dsimp only; rw [← he, drop_cons hs]; rfl⟩, rfl, (.keep rfl (.nil)), (.eq rfl (zM1 hlt hlen) (.eq rfl (rfl) (.nil)))⟩
 ·
  have hge : i = b.length := by simp at h12; omega
  refine zN1 <| zB <| qR rfl <| qM rfl rfl rfl <| qA rfl rfl rfl <| qN <| zK ?_
  exact zQ (.inr rfl) Tryz.results61 rfl (.of_eq (by rw [← he, hge, List.drop_length]; rfl)) (cl_clock _ _) ⟨rfl, rfl⟩
theorem _root_.zG5 : type_of% @rJoinC_spec := @rJoinC_spec
theorem rUnder_spec (a b : List Tk) (S : MS) : MCalls Tryz.prog 143 [.lst none 2 (a.map encT), .lst none 2 (b.map encT)] S fun v σ' => v = .bool (underF a b) ∧ σ' = S := by
 refine zU Tryz.func143 rfl Tryz.ntmps143 (zA rfl) ?_
 refine zN2 (t := 0) rfl fun hlen => ?_
 rw [zC] at hlen
 refine zB <| qR rfl <| qA rfl rfl rfl <| qN <| zB <| zB <| qR rfl <| qA rfl rfl rfl <| qN <| zB0 ?_
 refine zV1 (α := Nat) [(0, _), (1, _)] (fun i => [(5, .int .i64 (i : Int))]) (fun i => []) (fun i => i ≤ a.length ∧ (a.take i).all (fun t => !decide (t.2 > ofF b t.1)) = true) (fun i => a.length - i) (0) (.keep rfl (.keep rfl (.nil))) (.keep rfl (.nil)) (⟨by omega, rfl⟩) (rfl) ?_
 rintro i ⟨hi, hall⟩
 refine zB <| zB <| qR rfl <| qM rfl rfl rfl <| qM rfl rfl rfl <| qE rfl rfl zP rfl <| qC rfl rfl rfl rfl rfl <| qN ?_
 refine zJ rfl (fun h9 => ?_) (fun h9 => ?_)
 ·
  have hlt : i < a.length := by simpa using h9
  obtain ⟨t, hs⟩ : ∃ q_, a[i]? = some q_ := ⟨_, zD hlt⟩
  refine zA0 <| zB <| zB0 <| zB ?_
  refine zU0 [] [_] mo (by decide) rfl rfl rfl rfl ?_
  refine dO rfl rfl rfl (zV rfl rfl ⟨rfl, rfl⟩) <| dO rfl rfl rfl (zV rfl rfl ⟨rfl, rfl⟩) <| dO rfl rfl rfl (zG rfl zP sz59 (by decide) rfl rfl rfl (zV0 hs) ⟨rfl, rfl⟩) ?_
  refine dO rfl rfl rfl (zP0 rfl rfl zZ4 ⟨rfl, rfl⟩) <| dO rfl rfl rfl (zH rfl rfl ta25 rfl ⟨rfl, rfl⟩) <| dO rfl rfl rfl (zV rfl rfl ⟨rfl, rfl⟩) <| dO rfl rfl rfl (zV rfl rfl ⟨rfl, rfl⟩) <| dO rfl rfl rfl (zV rfl rfl ⟨rfl, rfl⟩) <| dO rfl rfl rfl (zG rfl zP sz59 (by decide) rfl rfl rfl (zV0 hs) ⟨rfl, rfl⟩) ?_
  refine dO rfl rfl rfl (zP0 rfl rfl zI3 ⟨rfl, rfl⟩) <| dO rfl rfl rfl (zH rfl rfl ta3 rfl ⟨rfl, rfl⟩) <| zS rfl rfl (.cons (zH1 rfl rfl rfl co150 (rOf_spec b t.1 _)) .nil) <| dO rfl rfl rfl (zE2 rfl rfl rfl rfl ⟨rfl, rfl⟩) <| zL0 ?_
  refine zJ rfl (fun h24 => ?_) (fun h24 => ?_)
  ·
   refine zB <| qR rfl <| qA rfl rfl rfl <| qN <| zK ?_
   exact zQ (.inr rfl) Tryz.results143 rfl (.of_eq (by unfold underF; rw [List.all_eq_false.2 ⟨t, zF0 hs, by simpa using h24⟩])) (.bool _) ⟨rfl, rfl⟩
  ·
   refine zA0 <| qR rfl <| qM rfl rfl rfl <| qO rfl <| zY0 rfl rfl rfl rfl <| qA rfl rfl rfl <| qN ?_
   refine ⟨i + 1, by omega, ⟨by omega, ?_⟩, rfl, (.keep rfl (.keep rfl (.nil))), (.eq rfl (zM1 hlt hlen) (.nil))⟩
   rw [List.take_add_one, hs, List.all_append, hall]
   simpa using h24
 ·
  have hge : i = a.length := by simp at h9; omega
  refine zN1 <| zB <| qR rfl <| qA rfl rfl rfl <| qN <| zK ?_
  exact zQ (.inr rfl) Tryz.results143 rfl (.of_eq (by rw [hge, List.take_length] at hall; unfold underF; rw [hall])) (.bool _) ⟨rfl, rfl⟩
theorem _root_.zX4 : type_of% @Tryz.results110 := @Tryz.results110
theorem rCmpC_spec (a b : List Tk) (S : MS) : MCalls Tryz.prog 110 [.lst none 2 (a.map encT), .lst none 2 (b.map encT)] S fun v σ' => v = .int .i64 (rcmpF a b) ∧ σ' = S := by
 refine zU Tryz.func110 rfl Tryz.ntmps110 (zA rfl) ?_
 refine zB <| qR rfl <| qA rfl rfl rfl <| qN <| zB <| qR rfl <| qM rfl rfl rfl <| qM rfl rfl rfl ?_
 refine qX rfl rfl rfl rfl co143 (rUnder_spec a b _) ?_
 refine qM rfl rfl rfl <| qM rfl rfl rfl ?_
 refine qX rfl rfl rfl rfl co143 (rUnder_spec b a _) ?_
 refine qA rfl rfl rfl <| qA rfl rfl rfl <| qN <| zB <| zB0 <| zB <| qR rfl <| qM rfl rfl rfl <| qM rfl rfl rfl ?_
 refine zG0 (fun h15 => ?_) (fun h15 => ?_)
 ·
  refine qM rfl rfl rfl <| qP rfl rfl rfl rfl <| qA rfl rfl rfl <| qN ?_
  refine zJ rfl (fun h13 => ?_) (fun h13 => ?_)
  ·
   refine zB <| qR rfl <| qA rfl rfl rfl <| qN <| zK ?_
   exact zQ (.inr rfl) zX4 rfl (.of_eq (by unfold rcmpF; simp_all)) (.int _ _) ⟨rfl, rfl⟩
  ·
   refine zB <| qR rfl <| qM rfl rfl rfl <| qA rfl rfl rfl <| qN ?_
   refine zJ rfl (fun h18 => ?_) (fun h18 => ?_)
   ·
    refine zB <| qR rfl <| qA rfl rfl rfl <| qN <| zK ?_
    exact zQ (.inr rfl) zX4 rfl (.of_eq (by unfold rcmpF; simp_all)) (.int _ _) ⟨rfl, rfl⟩
   ·
    refine zB <| qR rfl <| qM rfl rfl rfl <| qA rfl rfl rfl <| qN ?_
    refine zJ rfl (fun h20 => ?_) (fun h20 => ?_)
    ·
     refine zB <| qR rfl <| qA rfl rfl rfl <| qN <| zK ?_
     exact zQ (.inr rfl) zX4 rfl (.of_eq (by unfold rcmpF; simp_all)) (.int _ _) ⟨rfl, rfl⟩
    ·
     refine zA0 <| zB <| qR rfl <| qA rfl rfl rfl <| qN <| zK ?_
     exact zQ (.inr rfl) zX4 rfl (.of_eq (by unfold rcmpF; simp_all)) (.int _ _) ⟨rfl, rfl⟩
 ·
  refine qS rfl <| qP rfl rfl rfl rfl <| qA rfl rfl rfl <| qN <| zL rfl (rfl) <| zB <| qR rfl <| qM rfl rfl rfl <| qA rfl rfl rfl <| qN ?_
  refine zJ rfl (fun h18 => ?_) (fun h18 => ?_)
  ·
   refine zB <| qR rfl <| qA rfl rfl rfl <| qN <| zK ?_
   exact zQ (.inr rfl) zX4 rfl (.of_eq (by unfold rcmpF; simp_all)) (.int _ _) ⟨rfl, rfl⟩
  ·
   refine zB <| qR rfl <| qM rfl rfl rfl <| qA rfl rfl rfl <| qN ?_
   refine zJ rfl (fun h20 => ?_) (fun h20 => ?_)
   ·
    refine zB <| qR rfl <| qA rfl rfl rfl <| qN <| zK ?_
    exact zQ (.inr rfl) zX4 rfl (.of_eq (by unfold rcmpF; simp_all)) (.int _ _) ⟨rfl, rfl⟩
   ·
    refine zA0 <| zB <| qR rfl <| qA rfl rfl rfl <| qN <| zK ?_
    exact zQ (.inr rfl) zX4 rfl (.of_eq (by unfold rcmpF; simp_all)) (.int _ _) ⟨rfl, rfl⟩
theorem valIs_spec (s : Sch) (x : Val) (hx : okV x) (S : MS) : MCalls Tryz.prog 30 [encS s, encV x] S fun v σ' => v = .bool (isF 16 s && isVF s x) ∧ σ' = S := by
 obtain ⟨k, ins⟩ := s
 obtain ⟨n, m, s, c, w⟩ := x
 refine zU Tryz.func30 rfl Tryz.ntmps30 (zA rfl) ?_
 refine zB <| qR rfl <| qB rfl rfl rfl rfl rfl <| qB rfl rfl rfl rfl rfl <| qA rfl rfl rfl <| qN <| zB <| qR rfl <| qL rfl rfl rfl rfl ta24 rfl ?_
 refine qX rfl rfl rfl rfl co33 (Is_spec (.mk k ins) _) ?_
 refine qM rfl rfl rfl ?_
 refine zG0 (fun h7 => ?_) (fun h7 => ?_)
 ·
  refine qL rfl rfl rfl rfl ta24 rfl <| qL rfl rfl rfl rfl ta30 rfl ?_
  refine qX rfl rfl rfl rfl co49 (isV_spec 16 (.mk k ins) h7 (.mk n m s c w) hx _) ?_
  refine qP rfl rfl rfl rfl <| qA rfl rfl rfl <| qN <| zK ?_
  exact zQ (.inr rfl) Tryz.results30 rfl (.of_eq (by simp_all)) (.bool _) ⟨rfl, rfl⟩
 ·
  refine qS rfl <| qS rfl <| qS rfl <| qP rfl rfl rfl rfl <| qA rfl rfl rfl <| qN <| zK ?_
  exact zQ (.inr rfl) Tryz.results30 rfl (.of_eq (by simp_all)) (.bool _) ⟨rfl, rfl⟩
theorem xSame_spec (a b : List Bs) (S : MS) : MCalls Tryz.prog 39 [.lst none 1 (a.map encX), .lst none 1 (b.map encX)] S fun v σ' => v = .bool (decide (a = b)) ∧ σ' = S := by
 refine zU Tryz.func39 rfl Tryz.ntmps39 (zA rfl) ?_
 refine zN2 (t := 0) rfl fun hlen => ?_
 rw [zC] at hlen
 refine zB <| qR rfl <| qA rfl rfl rfl <| qN <| zB <| zB <| qR rfl <| qM rfl rfl rfl <| qE rfl rfl zX rfl <| qM rfl rfl rfl <| qE rfl rfl zX rfl <| qC rfl rfl rfl rfl rfl <| qN ?_
 refine zJ rfl (fun h10 => ?_) (fun h10 => ?_)
 ·
  refine zB <| qR rfl <| qA rfl rfl rfl <| qN <| zK ?_
  exact zQ (.inr rfl) Tryz.results39 rfl (.of_eq (by congr 1; symm; rw [decide_eq_false_iff_not]; intro e; subst e; simp at h10)) (.bool _) ⟨rfl, rfl⟩
 ·
  have hab : a.length = b.length := by simp at h10; omega
  refine zA0 <| zB <| zB <| qR rfl <| qA rfl rfl rfl <| qN <| zB0 ?_
  refine zV1 (α := Nat) [(0, _), (1, _)] (fun i => [(5, .int .i64 (i : Int))]) (fun i => []) (fun i => i ≤ a.length ∧ a.take i = b.take i) (fun i => a.length - i) (0) (.keep rfl (.keep rfl (.nil))) (.keep rfl (.nil)) (⟨by omega, rfl⟩) (rfl) ?_
  rintro i ⟨hi, heq⟩
  refine zB <| zB <| qR rfl <| qM rfl rfl rfl <| qM rfl rfl rfl <| qE rfl rfl zX rfl <| qC rfl rfl rfl rfl rfl <| qN ?_
  refine zJ rfl (fun h14 => ?_) (fun h14 => ?_)
  ·
   have hlt : i < a.length := by simpa using h14
   obtain ⟨x, hs⟩ : ∃ q_, a[i]? = some q_ := ⟨_, zD hlt⟩
   obtain ⟨y, hs2⟩ : ∃ s, b[i]? = some s := ⟨_, zD (by omega)⟩
   refine zA0 <| zB <| zB0 <| zB ?_
   refine zU0 [] [_] mo (by decide) rfl rfl rfl rfl ?_
   refine dO rfl rfl rfl (zV rfl rfl ⟨rfl, rfl⟩) <| dO rfl rfl rfl (zV rfl rfl ⟨rfl, rfl⟩) <| dO rfl rfl rfl (zG rfl zX sz9 (by decide) rfl rfl rfl (zV0 hs) ⟨rfl, rfl⟩) ?_
   refine dO rfl rfl rfl (zH rfl rfl ta9 rfl ⟨rfl, rfl⟩) <| dO rfl rfl rfl (zV rfl rfl ⟨rfl, rfl⟩) <| dO rfl rfl rfl (zV rfl rfl ⟨rfl, rfl⟩) <| dO rfl rfl rfl (zG rfl zX sz9 (by decide) rfl rfl rfl (zV0 hs2) ⟨rfl, rfl⟩) ?_
   refine dO rfl rfl rfl (zH rfl rfl ta9 rfl ⟨rfl, rfl⟩) <| dO rfl rfl rfl (zG3 rfl rfl rfl rfl ⟨rfl, rfl⟩) <| zL0 ?_
   refine zJ rfl (fun h25 => ?_) (fun h25 => ?_)
   ·
    refine zB <| qR rfl <| qA rfl rfl rfl <| qN <| zK ?_
    exact zQ (.inr rfl) Tryz.results39 rfl (.of_eq (by congr 1; symm; rw [decide_eq_false_iff_not]; intro e; subst e; rw [hs2] at hs; injection hs with hs; subst hs; simp at h25)) (.bool _) ⟨rfl, rfl⟩
   ·
    refine zA0 <| qR rfl <| qM rfl rfl rfl <| qO rfl <| zY0 rfl rfl rfl rfl <| qA rfl rfl rfl <| qN ?_
    refine ⟨i + 1, by omega, ⟨by omega, ?_⟩, rfl, (.keep rfl (.keep rfl (.nil))), (.eq rfl (zM1 hlt hlen) (.nil))⟩
    rw [List.take_add_one, List.take_add_one, hs, hs2, heq]
    simp at h25
    rw [h25]
  ·
   have hge : i = a.length := by simp at h14; omega
   refine zN1 <| zB <| qR rfl <| qA rfl rfl rfl <| qN <| zK ?_
   exact zQ (.inr rfl) Tryz.results39 rfl (.of_eq (by congr 1; symm; rw [decide_eq_true_iff]; rw [hge, List.take_length, hab, List.take_length] at heq; exact heq)) (.bool _) ⟨rfl, rfl⟩
theorem _root_.zF4 : type_of% @Tryz.results12 := @Tryz.results12
theorem rvSame_spec (d : Nat) : ∀ (a b : Val), vdepth a ≤ d → ∀ S : MS, MCalls Tryz.prog 12 [encV a, encV b] S fun v σ' => v = .bool (decide (a = b)) ∧ σ' = S := by
 induction d with
 | zero => rintro ⟨n, m, s, c, w⟩ b h; simp [vdepth] at h
 | succ d ih =>
 rintro ⟨n, m, s, c, w⟩ ⟨n2, m2, s2, c2, w2⟩ hd S
 have hmem : ∀ x ∈ w, vdepth x ≤ d := fun x hx => by have := vdepth_mem hx; rw [vdepth] at hd; omega
 refine zU Tryz.func12 rfl Tryz.ntmps12 (zA rfl) ?_
 refine zB <| qR rfl <| qB rfl rfl rfl rfl rfl <| qB rfl rfl rfl rfl rfl <| qA rfl rfl rfl <| qN <| zB <| zB <| qR rfl <| qF rfl rfl rfl zB3 <| qL rfl rfl rfl rfl ta25 rfl <| qF rfl rfl rfl zB3 <| qL rfl rfl rfl rfl ta25 rfl <| qC rfl rfl rfl rfl rfl <| qM rfl rfl rfl ?_
 refine zG0 (fun h12 => ?_) (fun h12 => ?_)
 ·
  refine qT rfl rfl rfl rfl <| qS rfl <| qP rfl rfl rfl rfl <| qM rfl rfl rfl <| qT rfl rfl rfl rfl <| qS rfl <| qS rfl <| qP rfl rfl rfl rfl <| qM rfl rfl rfl <| qT rfl rfl rfl rfl <| qS rfl <| qS rfl <| qS rfl <| qP rfl rfl rfl rfl <| qM rfl rfl rfl ?_
  refine qT rfl rfl rfl rfl <| qS rfl <| qS rfl <| qS rfl <| qP rfl rfl rfl rfl <| qN <| zW rfl (rfl) <| zB <| qR rfl <| qA rfl rfl rfl <| qN <| zK ?_
  exact zQ (.inr rfl) zF4 rfl (.of_eq (by congr 1; rw [zF]; simp_all <;> (intros; simp_all))) (.bool _) ⟨rfl, rfl⟩
 ·
  refine qF rfl rfl rfl zQ4 <| qL rfl rfl rfl rfl ta25 rfl <| qF rfl rfl rfl zQ4 <| qL rfl rfl rfl rfl ta25 rfl <| qC rfl rfl rfl rfl rfl <| qP rfl rfl rfl rfl <| qM rfl rfl rfl ?_
  refine zG0 (fun h19 => ?_) (fun h19 => ?_)
  ·
   refine qT rfl rfl rfl rfl <| qS rfl <| qS rfl <| qP rfl rfl rfl rfl <| qM rfl rfl rfl <| qT rfl rfl rfl rfl <| qS rfl <| qS rfl <| qS rfl <| qP rfl rfl rfl rfl <| qM rfl rfl rfl <| qT rfl rfl rfl rfl <| qS rfl <| qS rfl <| qS rfl <| qP rfl rfl rfl rfl ?_
   refine qN <| zW rfl (rfl) <| zB <| qR rfl <| qA rfl rfl rfl <| qN <| zK ?_
   exact zQ (.inr rfl) zF4 rfl (.of_eq (by congr 1; rw [zF]; simp_all <;> (intros; simp_all))) (.bool _) ⟨rfl, rfl⟩
  ·
   refine qF rfl rfl rfl zR1 <| qL rfl rfl rfl rfl ta26 rfl <| qF rfl rfl rfl zR1 <| qL rfl rfl rfl rfl ta26 rfl ?_
   refine qX rfl rfl rfl rfl co39 (xSame_spec s s2 _) ?_
   refine qO rfl <| zG1 rfl rfl <| qP rfl rfl rfl rfl <| qM rfl rfl rfl ?_
   refine zG0 (fun h27 => ?_) (fun h27 => ?_)
   ·
    refine qT rfl rfl rfl rfl <| qS rfl <| qS rfl <| qS rfl <| qP rfl rfl rfl rfl <| qM rfl rfl rfl <| qT rfl rfl rfl rfl <| qS rfl <| qS rfl <| qS rfl <| qP rfl rfl rfl rfl <| qN <| zW rfl (rfl) <| zB <| qR rfl <| qA rfl rfl rfl <| qN <| zK ?_
    exact zQ (.inr rfl) zF4 rfl (.of_eq (by congr 1; rw [zF]; simp_all <;> (intros; simp_all))) (.bool _) ⟨rfl, rfl⟩
   ·
    refine qF rfl rfl rfl zI1 <| qL rfl rfl rfl rfl ta27 rfl <| qE rfl rfl zM rfl <| qF rfl rfl rfl zI1 <| qL rfl rfl rfl rfl ta27 rfl <| qE rfl rfl zM rfl <| qC rfl rfl rfl rfl rfl <| qP rfl rfl rfl rfl <| qM rfl rfl rfl ?_
    refine zG0 (fun h36 => ?_) (fun h36 => ?_)
    ·
     have hcne : ¬ c = c2 := by intro e; subst e; simp at h36
     refine qT rfl rfl rfl rfl <| qS rfl <| qS rfl <| qS rfl <| qP rfl rfl rfl rfl <| qN <| zW rfl (rfl) <| zB <| qR rfl <| qA rfl rfl rfl <| qN <| zK ?_
     exact zQ (.inr rfl) zF4 rfl (.of_eq (by congr 1; rw [zF]; simp_all <;> (intros; simp_all))) (.bool _) ⟨rfl, rfl⟩
    ·
     have hcc : c.length = c2.length := by rw [zC, zC] at h36; simp at h36; omega
     refine qF rfl rfl rfl zF1 <| qL rfl rfl rfl rfl ta28 rfl <| qE rfl rfl zO rfl <| qF rfl rfl rfl zF1 <| qL rfl rfl rfl rfl ta28 rfl <| qE rfl rfl zO rfl <| qC rfl rfl rfl rfl rfl <| qP rfl rfl rfl rfl <| qN ?_
     refine zJ rfl (fun h44 => ?_) (fun h44 => ?_)
     ·
      have hwne : ¬ w = w2 := by intro e; subst e; simp at h44
      refine zB <| qR rfl <| qA rfl rfl rfl <| qN <| zK ?_
      exact zQ (.inr rfl) zF4 rfl (.of_eq (by congr 1; rw [zF]; simp_all <;> (intros; simp_all))) (.bool _) ⟨rfl, rfl⟩
     ·
      have hww : w.length = w2.length := by rw [zR, zR] at h44; simp at h44; omega
      refine zN2 (t := 29) rfl fun hlc => ?_
      refine zN2 (t := 38) rfl fun hlw => ?_
      rw [zC] at hlc
      rw [zR] at hlw
      refine zA0 <| zB <| zB <| qR rfl <| qA rfl rfl rfl <| qN <| zB0 ?_
      refine zV1 (α := Nat) [(2, _), (3, _)] (fun i => [(5, .int .i64 (i : Int))]) (fun i => [.cells (encV (.mk n m s c w)).cells, .cells (encV (.mk n2 m2 s2 c2 w2)).cells]) (fun i => i ≤ c.length ∧ c.take i = c2.take i) (fun i => c.length - i) (0) (.keep rfl (.keep rfl (.nil))) (.keep rfl (.nil)) (⟨by omega, rfl⟩) (rfl) ?_
      rintro i ⟨hi, heq⟩
      refine zB <| zB <| qR rfl <| qM rfl rfl rfl <| qF rfl rfl rfl zI1 <| qL rfl rfl rfl rfl ta27 rfl <| qE rfl rfl zM rfl <| qC rfl rfl rfl rfl rfl <| qN ?_
      refine zJ rfl (fun h49 => ?_) (fun h49 => ?_)
      ·
       have hlt : i < c.length := by simpa using h49
       obtain ⟨x, hs⟩ : ∃ q_, c[i]? = some q_ := ⟨_, zD hlt⟩
       obtain ⟨y, hs2⟩ : ∃ s, c2[i]? = some s := ⟨_, zD (by omega)⟩
       refine zA0 <| zB <| zB0 <| zB ?_
       refine zU0 [] [_] mo (by decide) rfl rfl rfl rfl ?_
       refine dO rfl rfl rfl (zE rfl rfl zI1 ⟨rfl, rfl⟩) <| dO rfl rfl rfl (zD0 rfl rfl rfl ta27 rfl ⟨rfl, rfl⟩) <| dO rfl rfl rfl (zV rfl rfl ⟨rfl, rfl⟩) <| dO rfl rfl rfl (zG rfl zM sz60 (by decide) rfl rfl rfl (zV0 hs) ⟨rfl, rfl⟩) ?_
       refine dO rfl rfl rfl (zH rfl rfl ta60 rfl ⟨rfl, rfl⟩) <| dO rfl rfl rfl (zE rfl rfl zI1 ⟨rfl, rfl⟩) <| dO rfl rfl rfl (zD0 rfl rfl rfl ta27 rfl ⟨rfl, rfl⟩) <| dO rfl rfl rfl (zV rfl rfl ⟨rfl, rfl⟩) <| dO rfl rfl rfl (zG rfl zM sz60 (by decide) rfl rfl rfl (zV0 hs2) ⟨rfl, rfl⟩) ?_
       refine dO rfl rfl rfl (zH rfl rfl ta60 rfl ⟨rfl, rfl⟩) <| zS rfl rfl (.cons (zH1 rfl rfl rfl co40 (rSameC_spec x y _)) .nil) <| dO rfl rfl rfl (zG1 rfl rfl ⟨rfl, rfl⟩) <| zL0 ?_
       refine zJ rfl (fun h63 => ?_) (fun h63 => ?_)
       ·
        refine zB <| qR rfl <| qA rfl rfl rfl <| qN <| zK ?_
        exact zQ (.inr rfl) zF4 rfl (.of_eq (by congr 1; symm; rw [decide_eq_false_iff_not]; intro e; injection e with e1 e2 e3 e4 e5; subst e4; rw [hs2] at hs; injection hs with hs; subst hs; simp at h63)) (.bool _) ⟨rfl, rfl⟩
       ·
        refine zA0 <| qR rfl <| qM rfl rfl rfl <| qO rfl <| zY0 rfl rfl rfl rfl <| qA rfl rfl rfl <| qN ?_
        refine ⟨i + 1, by omega, ⟨by omega, ?_⟩, rfl, (.keep rfl (.keep rfl (.nil))), (.eq rfl (zM1 hlt hlc) (.nil))⟩
        rw [List.take_add_one, List.take_add_one, hs, hs2, heq, not_dec h63]
      ·
       have hge : i = c.length := by simp at h49; omega
       rw [hge, List.take_length, hcc, List.take_length] at heq
       refine zN1 <| zB <| zB <| qR rfl <| qA rfl rfl rfl <| qN <| zB0 ?_
       refine zV1 (α := Nat) [(2, _), (3, _)] (fun k => [(6, .int .i64 (k : Int))]) (fun k => [.cells (encV (.mk n m s c w)).cells, .cells (encV (.mk n2 m2 s2 c2 w2)).cells]) (fun k => k ≤ w.length ∧ w.take k = w2.take k) (fun k => w.length - k) (0) (.keep rfl (.keep rfl (.nil))) (.keep rfl (.nil)) (⟨by omega, rfl⟩) (rfl) ?_
       rintro k ⟨hk, heq2⟩
       refine zB <| zB <| qR rfl <| qM rfl rfl rfl <| qF rfl rfl rfl zF1 <| qL rfl rfl rfl rfl ta28 rfl <| qE rfl rfl zO rfl <| qC rfl rfl rfl rfl rfl <| qN ?_
       refine zJ rfl (fun h68 => ?_) (fun h68 => ?_)
       ·
        rw [zR] at h68
        have hlt2 : k < w.length := by simpa using h68
        obtain ⟨⟨n3, m3, s3, c3, w3⟩, hs3⟩ : ∃ q, w[k]? = some q := ⟨_, zD hlt2⟩
        obtain ⟨⟨n4, m4, s4, c4, w4⟩, hs4⟩ : ∃ q, w2[k]? = some q := ⟨_, zD (by omega)⟩
        refine zA0 <| zB <| zB0 <| zB ?_
        refine zU0 [] [_] mo (by decide) rfl rfl rfl rfl ?_
        refine dO rfl rfl rfl (zE rfl rfl zF1 ⟨rfl, rfl⟩) <| dO rfl rfl rfl (zD0 rfl rfl rfl ta28 rfl ⟨rfl, rfl⟩) <| dO rfl rfl rfl (zV rfl rfl ⟨rfl, rfl⟩) <| dO rfl rfl rfl (zG rfl zO sz30 (by decide) rfl rfl rfl (zZ1 hs3) ⟨rfl, rfl⟩) ?_
        refine dO rfl rfl rfl (zH rfl rfl ta30 rfl ⟨rfl, rfl⟩) <| dO rfl rfl rfl (zE rfl rfl zF1 ⟨rfl, rfl⟩) <| dO rfl rfl rfl (zD0 rfl rfl rfl ta28 rfl ⟨rfl, rfl⟩) <| dO rfl rfl rfl (zV rfl rfl ⟨rfl, rfl⟩) <| dO rfl rfl rfl (zG rfl zO sz30 (by decide) rfl rfl rfl (zZ1 hs4) ⟨rfl, rfl⟩) ?_
        refine dO rfl rfl rfl (zH rfl rfl ta30 rfl ⟨rfl, rfl⟩) <| zS rfl rfl (.cons (zH1 rfl rfl rfl co12 (ih (.mk n3 m3 s3 c3 w3) (.mk n4 m4 s4 c4 w4) (hmem _ (zF0 hs3)) _)) .nil) <| dO rfl rfl rfl (zG1 rfl rfl ⟨rfl, rfl⟩) <| zL0 ?_
        refine zJ rfl (fun h82 => ?_) (fun h82 => ?_)
        ·
         refine zB <| qR rfl <| qA rfl rfl rfl <| qN <| zK ?_
         exact zQ (.inr rfl) zF4 rfl (.of_eq (by congr 1; symm; rw [decide_eq_false_iff_not]; intro e; injection e with e1 e2 e3 e4 e5; subst e5; rw [hs4] at hs3; injection hs3 with hs3; rw [hs3] at h82; simp at h82)) (.bool _) ⟨rfl, rfl⟩
        ·
         refine zA0 <| qR rfl <| qM rfl rfl rfl <| qO rfl <| zY0 rfl rfl rfl rfl <| qA rfl rfl rfl <| qN ?_
         refine ⟨k + 1, by omega, ⟨by omega, ?_⟩, rfl, (.keep rfl (.keep rfl (.nil))), (.eq rfl (zM1 hlt2 hlw) (.nil))⟩
         rw [List.take_add_one, List.take_add_one, hs3, hs4, heq2, not_dec h82]
       ·
        rw [zR] at h68
        have hge2 : k = w.length := by simp at h68; omega
        rw [hge2, List.take_length, hww, List.take_length] at heq2
        refine zN1 <| zB <| qR rfl <| qA rfl rfl rfl <| qN <| zK ?_
        exact zQ (.inr rfl) zF4 rfl (.of_eq (by congr 1; rw [zF]; simp_all)) (.bool _) ⟨rfl, rfl⟩
theorem rSame_spec (a b : Val) (S : MS) : MCalls Tryz.prog 12 [encV a, encV b] S fun v σ' => v = .bool (decide (a = b)) ∧ σ' = S := rvSame_spec _ a b (Nat.le_refl _) S
theorem goP_snoc {F : Sch → Val → Val → Option Val} : ∀ {ins : List Sch} {w1 w2 : List Val} {i : Nat} {acc : List Val} {s : Sch} {x y v : Val}, goP ((ins.take i).map F) w1 w2 = some acc → ins[i]? = some s → w1[i]? = some x → w2[i]? = some y → F s x y = some v → goP ((ins.take (i + 1)).map F) w1 w2 = some (acc ++ [v])
 | [], _, _, _, _, _, _, _, _, _, h, _, _, _ => by simp at h
 | _ :: _, [], _, _, _, _, _, _, _, _, _, h, _, _ => by simp at h
 | _ :: _, _ :: _, [], _, _, _, _, _, _, _, _, _, h, _ => by simp at h
 | s0 :: ins, x0 :: w1, y0 :: w2, 0, acc, s, x, y, v, h, hs, hx, hy, hv => by
  simp only [List.getElem?_cons_zero, Option.some.injEq] at hs hx hy
  subst hs hx hy
  simp [goP] at h
  subst h
  simp [goP, hv]
 | s0 :: ins, x0 :: w1, y0 :: w2, i + 1, acc, s, x, y, v, h, hs, hx, hy, hv => by
  simp only [List.getElem?_cons_succ] at hs hx hy
  rw [List.take_succ_cons, List.map_cons, goP] at h ⊢
  cases hF : F s0 x0 y0 with
  | none => rw [hF] at h; cases h
  | some u =>
   rw [hF] at h
   cases hg : goP ((ins.take i).map F) w1 w2 with
   | none => rw [hg] at h; cases h
   | some l =>
    rw [hg] at h
    simp at h
    subst h
    dsimp only
    rw [goP_snoc hg hs hx hy hv]
    rfl
theorem goP_bad {F : Sch → Val → Val → Option Val} : ∀ {ins : List Sch} {w1 w2 : List Val} {i : Nat} {s : Sch} {x y : Val}, ins[i]? = some s → w1[i]? = some x → w2[i]? = some y → F s x y = none → goP (ins.map F) w1 w2 = none
 | [], _, _, _, _, _, _, h, _, _, _ => by simp at h
 | _ :: _, [], _, _, _, _, _, _, h, _, _ => by simp at h
 | _ :: _, _ :: _, [], _, _, _, _, _, _, h, _ => by simp at h
 | s0 :: ins, x0 :: w1, y0 :: w2, 0, s, x, y, hs, hx, hy, hv => by
  simp only [List.getElem?_cons_zero, Option.some.injEq] at hs hx hy
  subst hs hx hy
  simp [goP, hv]
 | s0 :: ins, x0 :: w1, y0 :: w2, i + 1, s, x, y, hs, hx, hy, hv => by
  simp only [List.getElem?_cons_succ] at hs hx hy
  rw [List.map_cons, goP, goP_bad hs hx hy hv]
  cases F s0 x0 y0 <;> rfl
theorem goP_len {fs : List (Val → Val → Option Val)} : ∀ {w1 w2 : List Val} {l : List Val}, goP fs w1 w2 = some l → l.length ≤ fs.length := by
 induction fs with
 | nil => intro w1 w2 l h; simp [goP] at h; subst h; simp
 | cons f fs ih =>
  intro w1 w2 l h
  cases w1 with
  | nil => simp [goP] at h; subst h; simp
  | cons x w1 =>
   cases w2 with
   | nil => simp [goP] at h; subst h; simp
   | cons y w2 =>
    rw [goP] at h
    cases hf : f x y with
    | none => rw [hf] at h; cases h
    | some v =>
     rw [hf] at h
     cases hg : goP fs w1 w2 with
     | none => rw [hg] at h; cases h
     | some q => rw [hg] at h; simp at h; subst h; have := ih hg; simp; omega
theorem cl_outV {acc : List Val} {t n : Nat} (ht : t < n) : (MObj.cells [.int .u64 0, .int .u64 0, .lst0, .lst0, .lst (some t) 5 (encVs acc)]).cl n := by
 intro x hx
 simp only [List.mem_cons, List.not_mem_nil, or_false] at hx
 rcases hx with rfl | rfl | rfl | rfl | rfl
 ·exact .int _ _
 ·exact .int _ _
 ·exact .lst0
 ·exact .lst0
 ·rw [zJ4]; exact zR5 ht (fun v => zJ1 n v) (fun v => by cases v; exact .inl rfl)
theorem cap_t {v : Val} (h : largeF v = true) : capF (some v) = none := by simp [capF, h]
theorem cap_f {v : Val} (h : largeF v = false) : capF (some v) = some v := by simp [capF, h]
theorem pairs_specJ (k : Int) (ins : List Sch) (hil : ins.length ≤ 40) (f : Sch → Val → Val → Option Val) (n1 m1 : Int) (s1 : List Bs) (c1 : List (List Tk)) (w1 : List Val) (n2 m2 : Int) (s2 : List Bs) (c2 : List (List Tk)) (w2 : List Val) (hl1 : w1.length = ins.length) (hl2 : w2.length = ins.length) (hb : ∀ (i : Nat) (s : Sch) (x y : Val), ins[i]? = some s → w1[i]? = some x → w2[i]? = some y → ∀ S : MS, MCalls Tryz.prog 31 [encS s, encV x, encV y] S fun v σ' => v = encO (f s x y) ∧ σ' = S) (S : MS) : MCalls Tryz.prog 52 [encS (.mk k ins), encV (.mk n1 m1 s1 c1 w1), encV (.mk n2 m2 s2 c2 w2)] S fun v σ' => v = encO (pairF2 (ins.map f) (.mk n1 m1 s1 c1 w1) (.mk n2 m2 s2 c2 w2)) ∧ σ' = S := by
 refine zU Tryz.func52 rfl Tryz.ntmps52 (zA rfl) ?_
 have hlen : ins.length ≤ maxLen := by simp only [maxLen]; omega
 refine zB <| qR rfl <| qB rfl rfl rfl rfl rfl <| qB rfl rfl rfl rfl rfl <| qB rfl rfl rfl rfl rfl <| qO rfl <| zN0 rfl zm30 rfl rfl <| qA rfl rfl rfl <| qN <| zB <| qR rfl <| qO rfl <| zN0 rfl zm30 rfl rfl <| qN <| zB <| zB <| qR rfl <| qF rfl rfl rfl zU2 <| qL rfl rfl rfl rfl ta22 rfl <| qE rfl rfl zR0 rfl <| qM rfl rfl rfl <| qN ?_
 refine zB0 <| zW5 4 4 30 5 rfl rfl (Nat.le_refl _) rfl rfl ?_
 refine zR4 (α := Nat × List Val) [(4, _), (5, _), (6, _), (8, _), (14, _), (15, _)] (fun x => [(16, .int .i64 (x.1 : Int))]) (fun x => [.cells (encS (.mk k ins)).cells, .cells (encV (.mk n1 m1 s1 c1 w1)).cells, .cells (encV (.mk n2 m2 s2 c2 w2)).cells, .cells [.int .u64 0, .int .u64 0, .lst0, .lst0, .lst0], .cells [.int .u64 0, .int .u64 0, .lst0, .lst0, .lst (some (S.length + 5)) 5 (encVs x.2)], .row 30 5 x.2.length]) (fun x => x.1 ≤ ins.length ∧ goP ((ins.take x.1).map f) w1 w2 = some x.2) (fun x => ins.length - x.1) (⟨0, []⟩) (Nat.le_refl _) (.keep rfl (.keep rfl (.keep rfl (.keep rfl (.keep rfl (.keep rfl (.nil))))))) (.keep rfl (.nil)) (⟨by simp, by simp [goP]⟩) (rfl) ?_
 rintro ⟨i, acc⟩ ⟨hi, he⟩
 dsimp only at hi he ⊢
 have hal : acc.length ≤ 1000 := by have h1 := goP_len he; rw [zC, List.length_take] at h1; omega
 refine zB <| qR rfl <| qC rfl rfl rfl rfl rfl <| qN <| zB ?_
 refine zJ rfl (fun h17 => ?_) (fun h17 => ?_)
 ·
  rw [zA3] at h17
  have hlt : i < ins.length := by simpa using h17
  obtain ⟨⟨k1, i1⟩, hs⟩ : ∃ q, ins[i]? = some q := ⟨_, zD hlt⟩
  obtain ⟨x, hx⟩ : ∃ q, w1[i]? = some q := ⟨_, zD (by omega)⟩
  obtain ⟨y, hy⟩ : ∃ q, w2[i]? = some q := ⟨_, zD (by omega)⟩
  obtain ⟨xn, xm, xs, xc, xw⟩ := x
  obtain ⟨yn, ym, ys, yc, yw⟩ := y
  refine zA0 <| zB <| zB0 <| zB <| qR rfl <| qM rfl rfl rfl <| qO rfl <| zG rfl zR0 sz24 (by decide) rfl rfl rfl (encSs_get hs) ?_
  refine qO rfl <| zH rfl rfl ta24 rfl <| qO rfl <| zN0 rfl zm24 rfl rfl <| qA rfl rfl rfl <| qO rfl <| zH0 rfl rfl rfl rfl sz24 rfl rfl (zA rfl) rfl <| qN <| zB ?_
  have hof := hb i _ _ _ hs hx hy
  rcases hf : f (.mk k1 i1) (.mk xn xm xs xc xw) (.mk yn ym ys yc yw) with _ | ⟨⟨n3, m3, s3, c3, w3⟩⟩ <;> rw [hf] at hof
  ·
   refine zU0 [15, 16] [_, S ++ [.cells (encS (.mk k ins)).cells, .cells (encV (.mk n1 m1 s1 c1 w1)).cells, .cells (encV (.mk n2 m2 s2 c2 w2)).cells, .cells [.int .u64 0, .int .u64 0, .lst0, .lst0, .lst0], .cells [.int .u64 0, .int .u64 0, .lst0, .lst0, .lst (some (S.length + 5)) 5 ((encVs acc))], .row 30 5 acc.length, .cells (encS (.mk k1 i1)).cells, .cells [.int .u64 0, .int .u64 0, .lst0, .lst0, .lst0]], S ++ [.cells (encS (.mk k ins)).cells, .cells (encV (.mk n1 m1 s1 c1 w1)).cells, .cells (encV (.mk n2 m2 s2 c2 w2)).cells, .cells [.int .u64 0, .int .u64 0, .lst0, .lst0, .lst0], .cells [.int .u64 0, .int .u64 0, .lst0, .lst0, .lst (some (S.length + 5)) 5 ((encVs acc))], .row 30 5 acc.length, .cells (encS (.mk k1 i1)).cells, .cells (encV noV).cells]] mo (by decide) rfl rfl rfl rfl ?_
   refine zS rfl rfl (.cons (zD0 rfl rfl rfl ta24 rfl ⟨rfl, rfl⟩) (.cons (zD0 rfl rfl rfl ta24 rfl ⟨rfl, rfl⟩) (.nil))) <| zS rfl rfl (.cons (zE rfl rfl zF1 ⟨rfl, rfl⟩) (.cons (zE rfl rfl zF1 ⟨rfl, rfl⟩) (.nil))) <| zS rfl rfl (.cons (zD0 rfl rfl rfl ta28 rfl ⟨rfl, rfl⟩) (.cons (zD0 rfl rfl rfl ta28 rfl ⟨rfl, rfl⟩) (.nil))) <| zS rfl rfl (.cons (zV rfl rfl ⟨rfl, rfl⟩) (.cons (zV rfl rfl ⟨rfl, rfl⟩) (.nil))) <| zS rfl rfl (.cons (zG rfl zO sz30 (by decide) rfl rfl rfl (zZ1 hx) ⟨rfl, rfl⟩) (.cons (zG rfl zO sz30 (by decide) rfl rfl rfl (zZ1 hx) ⟨rfl, rfl⟩) (.nil))) ?_
   refine zS rfl rfl (.cons (zH rfl rfl ta30 rfl ⟨rfl, rfl⟩) (.cons (zH rfl rfl ta30 rfl ⟨rfl, rfl⟩) (.nil))) <| zS rfl rfl (.cons (zE rfl rfl zF1 ⟨rfl, rfl⟩) (.cons (zE rfl rfl zF1 ⟨rfl, rfl⟩) (.nil))) <| zS rfl rfl (.cons (zD0 rfl rfl rfl ta28 rfl ⟨rfl, rfl⟩) (.cons (zD0 rfl rfl rfl ta28 rfl ⟨rfl, rfl⟩) (.nil))) <| zS rfl rfl (.cons (zV rfl rfl ⟨rfl, rfl⟩) (.cons (zV rfl rfl ⟨rfl, rfl⟩) (.nil))) <| zS rfl rfl (.cons (zG rfl zO sz30 (by decide) rfl rfl rfl (zZ1 hy) ⟨rfl, rfl⟩) (.cons (zG rfl zO sz30 (by decide) rfl rfl rfl (zZ1 hy) ⟨rfl, rfl⟩) (.nil))) ?_
   refine zS rfl rfl (.cons (zH rfl rfl ta30 rfl ⟨rfl, rfl⟩) (.cons (zH rfl rfl ta30 rfl ⟨rfl, rfl⟩) (.nil))) <| zS rfl rfl (.cons (zH1 rfl rfl rfl co31 (hof _)) (.cons (zH1 rfl rfl rfl co31 (hof _)) (.nil))) <| zS rfl rfl (.cons (zV rfl rfl ⟨rfl, rfl⟩) (.cons (zV rfl rfl ⟨rfl, rfl⟩) (.nil))) <| zS rfl rfl (.cons (zE0 rfl rfl rfl ⟨rfl, rfl⟩) (.cons (zE0 rfl rfl rfl ⟨rfl, rfl⟩) (.nil))) <| zS rfl rfl (.cons (zE0 rfl rfl rfl ⟨rfl, rfl⟩) (.cons (zE0 rfl rfl rfl ⟨rfl, rfl⟩) (.cons (zE0 rfl rfl rfl ⟨rfl, rfl⟩) (.nil)))) <| zX0 rfl rfl rfl rfl (zN0 rfl zm30 rfl rfl ⟨rfl, rfl⟩) <| zX0 rfl rfl rfl rfl (zH0 rfl rfl rfl rfl sz30 rfl rfl (zA rfl) rfl ⟨rfl, rfl⟩) <| dO rfl rfl rfl (zB1 rfl rfl ⟨rfl, rfl⟩) <| zL0 <| zB <| zB <| qR rfl <| qM rfl rfl rfl <| qO rfl <| zY2 rfl zI0 rfl rfl (.inr ⟨rfl, rfl⟩) <| qN <| zW rfl (rfl) <| zB <| qR rfl <| qO rfl <| zW1 rfl zS0 zm30 .nil (by kernel_rfl) ?_
   refine qM rfl rfl rfl <| qO rfl <| zH0 rfl rfl rfl rfl sz30 rfl rfl (zA rfl) rfl <| qA rfl rfl rfl <| qN <| zK ?_
   exact zZ0 (.inr rfl) Tryz.results52 rfl rfl ta30 rfl (.agg (.cons (.refl _) (.cons (.refl _) (.cons (.nil 1) (.cons (.nil 1) (.cons (.nil 5) .nil)))))) (zJ1 _ (noV)) rfl (.refl _) (.iface _ _ (.int _ _)) ⟨by rw [show pairF2 (ins.map f) (.mk n1 m1 s1 c1 w1) (.mk n2 m2 s2 c2 w2) = none from by rw [pairF2]; show (goP (ins.map f) w1 w2).map _ = none; rw [goP_bad hs hx hy hf]; rfl]; rfl, rfl⟩
  ·
   refine zU0 [15, 16] [_, S ++ [.cells (encS (.mk k ins)).cells, .cells (encV (.mk n1 m1 s1 c1 w1)).cells, .cells (encV (.mk n2 m2 s2 c2 w2)).cells, .cells [.int .u64 0, .int .u64 0, .lst0, .lst0, .lst0], .cells [.int .u64 0, .int .u64 0, .lst0, .lst0, .lst (some (S.length + 5)) 5 ((encVs acc))], .row 30 5 acc.length, .cells (encS (.mk k1 i1)).cells, .cells [.int .u64 0, .int .u64 0, .lst0, .lst0, .lst0]], S ++ [.cells (encS (.mk k ins)).cells, .cells (encV (.mk n1 m1 s1 c1 w1)).cells, .cells (encV (.mk n2 m2 s2 c2 w2)).cells, .cells [.int .u64 0, .int .u64 0, .lst0, .lst0, .lst0], .cells [.int .u64 0, .int .u64 0, .lst0, .lst0, .lst (some (S.length + 5)) 5 ((encVs acc))], .row 30 5 acc.length, .cells (encS (.mk k1 i1)).cells, .cells (encV (.mk n3 m3 s3 c3 w3)).cells]] mo (by decide) rfl rfl rfl rfl ?_
   refine zS rfl rfl (.cons (zD0 rfl rfl rfl ta24 rfl ⟨rfl, rfl⟩) (.cons (zD0 rfl rfl rfl ta24 rfl ⟨rfl, rfl⟩) (.nil))) <| zS rfl rfl (.cons (zE rfl rfl zF1 ⟨rfl, rfl⟩) (.cons (zE rfl rfl zF1 ⟨rfl, rfl⟩) (.nil))) <| zS rfl rfl (.cons (zD0 rfl rfl rfl ta28 rfl ⟨rfl, rfl⟩) (.cons (zD0 rfl rfl rfl ta28 rfl ⟨rfl, rfl⟩) (.nil))) <| zS rfl rfl (.cons (zV rfl rfl ⟨rfl, rfl⟩) (.cons (zV rfl rfl ⟨rfl, rfl⟩) (.nil))) <| zS rfl rfl (.cons (zG rfl zO sz30 (by decide) rfl rfl rfl (zZ1 hx) ⟨rfl, rfl⟩) (.cons (zG rfl zO sz30 (by decide) rfl rfl rfl (zZ1 hx) ⟨rfl, rfl⟩) (.nil))) ?_
   refine zS rfl rfl (.cons (zH rfl rfl ta30 rfl ⟨rfl, rfl⟩) (.cons (zH rfl rfl ta30 rfl ⟨rfl, rfl⟩) (.nil))) <| zS rfl rfl (.cons (zE rfl rfl zF1 ⟨rfl, rfl⟩) (.cons (zE rfl rfl zF1 ⟨rfl, rfl⟩) (.nil))) <| zS rfl rfl (.cons (zD0 rfl rfl rfl ta28 rfl ⟨rfl, rfl⟩) (.cons (zD0 rfl rfl rfl ta28 rfl ⟨rfl, rfl⟩) (.nil))) <| zS rfl rfl (.cons (zV rfl rfl ⟨rfl, rfl⟩) (.cons (zV rfl rfl ⟨rfl, rfl⟩) (.nil))) <| zS rfl rfl (.cons (zG rfl zO sz30 (by decide) rfl rfl rfl (zZ1 hy) ⟨rfl, rfl⟩) (.cons (zG rfl zO sz30 (by decide) rfl rfl rfl (zZ1 hy) ⟨rfl, rfl⟩) (.nil))) ?_
   refine zS rfl rfl (.cons (zH rfl rfl ta30 rfl ⟨rfl, rfl⟩) (.cons (zH rfl rfl ta30 rfl ⟨rfl, rfl⟩) (.nil))) <| zS rfl rfl (.cons (zH1 rfl rfl rfl co31 (hof _)) (.cons (zH1 rfl rfl rfl co31 (hof _)) (.nil))) <| zS rfl rfl (.cons (zV rfl rfl ⟨rfl, rfl⟩) (.cons (zV rfl rfl ⟨rfl, rfl⟩) (.nil))) <| zS rfl rfl (.cons (zE0 rfl rfl rfl ⟨rfl, rfl⟩) (.cons (zE0 rfl rfl rfl ⟨rfl, rfl⟩) (.nil))) <| zS rfl rfl (.cons (zE0 rfl rfl rfl ⟨rfl, rfl⟩) (.cons (zE0 rfl rfl rfl ⟨rfl, rfl⟩) (.cons (zE0 rfl rfl rfl ⟨rfl, rfl⟩) (.nil)))) <| zX0 rfl rfl rfl rfl (zN0 rfl zm30 rfl rfl ⟨rfl, rfl⟩) <| zX0 rfl rfl rfl rfl (zH0 rfl rfl rfl rfl sz30 rfl rfl (zA rfl) rfl ⟨rfl, rfl⟩) <| dO rfl rfl rfl (zB1 rfl rfl ⟨rfl, rfl⟩) <| zL0 <| zB <| zB <| qR rfl <| qM rfl rfl rfl <| qO rfl <| zS3 rfl zI0 rfl rfl (.inr ⟨rfl, rfl⟩) <| qN <| zL rfl (rfl) <| zA0 <| qR rfl <| qF rfl rfl rfl zF1 <| qL rfl rfl rfl rfl ta28 rfl <| qL rfl rfl rfl rfl ta30 rfl <| qO rfl <| zC1 rfl zO el30 rfl rfl (by decide) (by decide) rfl rfl ?_
   refine qO rfl <| zC2 rfl zO el30 rfl rfl rfl (by simp [zR]) (by simp [zR]; omega) (by simp [zR]; omega) rfl ?_
   refine qF rfl rfl rfl zF1 <| qO rfl <| zH0 rfl rfl rfl rfl sz28 rfl rfl (zA rfl) rfl <| qN <| qR rfl <| qO rfl <| zY0 rfl rfl rfl rfl <| qM rfl rfl rfl <| qN ?_
   refine ⟨⟨i + 1, acc ++ [.mk n3 m3 s3 c3 w3]⟩, _, by dsimp only; omega, ⟨by dsimp only; omega, goP_snoc he hs hx hy hf⟩, by simp only [encVs_append, zN]; rfl, .same (.same (.same (.same (.new (cl_outV (by simp)) (.new trivial .nil))))), (.old rfl rfl (.old rfl rfl (.old rfl rfl (.old rfl rfl (.old rfl rfl (.old rfl rfl (.nil))))))), (.new' rfl (zM1 hlt hlen) (.int _ _) (.nil))⟩
 ·
  rw [zA3] at h17
  have hge : i = ins.length := by simp at h17; omega
  refine zN1 <| zB <| qR rfl <| qL rfl rfl rfl rfl ta30 rfl <| qO rfl <| zH0 rfl rfl rfl rfl sz30 rfl rfl (zA rfl) rfl <| qA rfl rfl rfl <| qN <| zK ?_
  exact zZ0 (.inr rfl) Tryz.results52 rfl rfl ta30 rfl (.agg (.cons (.refl _) (.cons (.refl _) (.cons (.nil 1) (.cons (.nil 1) (.cons (.view _ _ _) .nil)))))) (zJ1 _ (.mk 0 0 [] [] acc)) rfl (.refl _) (.iface0) ⟨by rw [show pairF2 (ins.map f) (.mk n1 m1 s1 c1 w1) (.mk n2 m2 s2 c2 w2) = some _ from by rw [pairF2]; show (goP (ins.map f) w1 w2).map _ = _; rw [hge, List.take_length] at he; rw [he]; rfl]; rfl, rfl⟩
end Go.Proofs.YtnfcnpdpfgcchaaGreatDoor
