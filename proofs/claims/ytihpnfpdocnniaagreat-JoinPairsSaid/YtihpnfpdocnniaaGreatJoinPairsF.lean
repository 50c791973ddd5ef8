/-
  Texts on which the proof of JoinPairs leans: part 6.
-/
import Derived.Test.YtihpnfpdocnniaaGreatJoinPairsE
import Derived.Deep.Slices
import Derived.ChangeSame
import Derived.ProofKit
import Derived.OpenShut
import Derived.ChangeOld
import Derived.SizedLaws
import Derived.Carry
section
set_option linter.unusedVariables false
set_option linter.unusedSimpArgs false
namespace Go.Proofs.YtihpnfpdocnniaaGreat
open Go Go.MV Go.RowKit
abbrev ltB (a b : Bs) : Prop := Op.bytesLess a b = true
theorem ltB_cons {x y : UInt8} {a b : Bs} : ltB (x :: a) (y :: b) ↔ x < y ∨ (x = y ∧ ltB a b) := by
  unfold ltB
  simp [Op.bytesLess]
theorem ltB_irrefl : ∀ a : Bs, ¬ ltB a a
  | [] => by simp [ltB, Op.bytesLess]
  | x :: a => by
    rw [ltB_cons]
    rintro (h | ⟨_, h⟩)
    · exact UInt8.lt_irrefl _ h
    · exact ltB_irrefl a h
theorem ltB_trans : ∀ {a b c : Bs}, ltB a b → ltB b c → ltB a c
  | _, [], _, h, _ => by simp [ltB, Op.bytesLess] at h
  | _, _ :: _, [], _, h => by simp [ltB, Op.bytesLess] at h
  | [], _ :: _, _ :: _, _, _ => by simp [ltB, Op.bytesLess]
  | x :: a, y :: b, z :: c, h1, h2 => by
    rw [ltB_cons] at h1 h2 ⊢
    rcases h1 with h1 | ⟨rfl, h1⟩
    · rcases h2 with h2 | ⟨rfl, h2⟩
      · exact .inl (UInt8.lt_trans h1 h2)
      · exact .inl h1
    · rcases h2 with h2 | ⟨rfl, h2⟩
      · exact .inl h2
      · exact .inr ⟨rfl, ltB_trans h1 h2⟩
theorem ltB_total : ∀ a b : Bs, ltB a b ∨ a = b ∨ ltB b a
  | [], [] => .inr (.inl rfl)
  | [], _ :: _ => .inl (by simp [ltB, Op.bytesLess])
  | _ :: _, [] => .inr (.inr (by simp [ltB, Op.bytesLess]))
  | x :: a, y :: b => by
    rw [ltB_cons, ltB_cons]
    by_cases h1 : x < y
    · exact .inl (.inl h1)
    · by_cases h2 : y < x
      · exact .inr (.inr (.inl h2))
      · have e : x = y := UInt8.le_antisymm (UInt8.not_lt.1 h2) (UInt8.not_lt.1 h1)
        subst e
        rcases ltB_total a b with h | rfl | h
        · exact .inl (.inr ⟨rfl, h⟩)
        · exact .inr (.inl rfl)
        · exact .inr (.inr (.inr ⟨rfl, h⟩))
theorem ltB_asymm {a b : Bs} (h : ltB a b) : ¬ ltB b a := fun h2 => ltB_irrefl _ (ltB_trans h h2)
def Up (l : List Bs) : Prop := l.Pairwise ltB
theorem up_cons {x : Bs} {l : List Bs} : Up (x :: l) ↔ (∀ y ∈ l, ltB x y) ∧ Up l := List.pairwise_cons
theorem up_ext : ∀ {a b : List Bs}, Up a → Up b → (∀ x, x ∈ a ↔ x ∈ b) → a = b
  | [], [], _, _, _ => rfl
  | [], y :: b, _, _, h => absurd ((h y).2 (.head _)) (by simp)
  | x :: a, [], _, _, h => absurd ((h x).1 (.head _)) (by simp)
  | x :: a, y :: b, ha, hb, h => by
    have ha' := up_cons.1 ha
    have hb' := up_cons.1 hb
    have e : x = y := by
      rcases List.mem_cons.1 ((h x).1 (.head _)) with e | hx
      · exact e
      · rcases List.mem_cons.1 ((h y).2 (.head _)) with e | hy
        · exact e.symm
        · exact absurd (hb'.1 x hx) (ltB_asymm (ha'.1 y hy))
    subst e
    congr 1
    refine up_ext ha'.2 hb'.2 fun z => ⟨fun hz => ?_, fun hz => ?_⟩
    · rcases List.mem_cons.1 ((h z).1 (.tail _ hz)) with rfl | hz2
      · exact absurd (ha'.1 _ hz) (ltB_irrefl _)
      · exact hz2
    · rcases List.mem_cons.1 ((h z).2 (.tail _ hz)) with rfl | hz2
      · exact absurd (hb'.1 _ hz) (ltB_irrefl _)
      · exact hz2
theorem mem_both : ∀ (a b : List Bs) (z : Bs), z ∈ bothX a b ↔ z ∈ a ∨ z ∈ b := by
  intro a b
  induction a, b using bothX.induct with
  | case1 => simp [bothX]
  | case2 x a ih => intro z; rw [bothX, List.mem_cons, ih]; simp
  | case3 y b ih => intro z; rw [bothX, List.mem_cons, ih]; simp
  | case4 x a y b h ih => intro z; rw [bothX, if_pos h, List.mem_cons, ih]; simp [or_assoc]
  | case5 x a y b h h2 ih => intro z; rw [bothX, if_neg h, if_pos h2, List.mem_cons, ih]; simp only [List.mem_cons]; exact or_left_comm
  | case6 x a y b h h2 ih =>
    intro z
    have e : x = y := by
      rcases ltB_total x y with h3 | h3 | h3
      · exact absurd h3 h
      · exact h3
      · exact absurd h3 h2
    subst e
    rw [bothX, if_neg h, if_neg h2, List.mem_cons, ih]
    simp only [List.mem_cons]
    constructor
    · rintro (h | h | h)
      · exact .inl (.inl h)
      · exact .inl (.inr h)
      · exact .inr (.inr h)
    · rintro ((h | h) | (h | h))
      · exact .inl h
      · exact .inr (.inl h)
      · exact .inl h
      · exact .inr (.inr h)
theorem up_both : ∀ (a b : List Bs), Up a → Up b → Up (bothX a b) := by
  intro a b
  induction a, b using bothX.induct with
  | case1 => intro _ _; simp [bothX, Up]
  | case2 x a ih =>
    intro ha hb
    rw [bothX]
    refine up_cons.2 ⟨fun z hz => ?_, ih (up_cons.1 ha).2 hb⟩
    rw [mem_both] at hz
    exact (up_cons.1 ha).1 z (by simpa using hz)
  | case3 y b ih =>
    intro ha hb
    rw [bothX]
    refine up_cons.2 ⟨fun z hz => ?_, ih ha (up_cons.1 hb).2⟩
    rw [mem_both] at hz
    exact (up_cons.1 hb).1 z (by simpa using hz)
  | case4 x a y b h ih =>
    intro ha hb
    rw [bothX, if_pos h]
    refine up_cons.2 ⟨fun z hz => ?_, ih (up_cons.1 ha).2 hb⟩
    rw [mem_both] at hz
    rcases hz with hz | hz
    · exact (up_cons.1 ha).1 z hz
    · rcases List.mem_cons.1 hz with rfl | hz
      · exact h
      · exact ltB_trans h ((up_cons.1 hb).1 z hz)
  | case5 x a y b h h2 ih =>
    intro ha hb
    rw [bothX, if_neg h, if_pos h2]
    refine up_cons.2 ⟨fun z hz => ?_, ih ha (up_cons.1 hb).2⟩
    rw [mem_both] at hz
    rcases hz with hz | hz
    · rcases List.mem_cons.1 hz with rfl | hz
      · exact h2
      · exact ltB_trans h2 ((up_cons.1 ha).1 z hz)
    · exact (up_cons.1 hb).1 z hz
  | case6 x a y b h h2 ih =>
    intro ha hb
    have e : x = y := by
      rcases ltB_total x y with h3 | h3 | h3
      · exact absurd h3 h
      · exact h3
      · exact absurd h3 h2
    subst e
    rw [bothX, if_neg h, if_neg h2]
    refine up_cons.2 ⟨fun z hz => ?_, ih (up_cons.1 ha).2 (up_cons.1 hb).2⟩
    rw [mem_both] at hz
    rcases hz with hz | hz
    · exact (up_cons.1 ha).1 z hz
    · exact (up_cons.1 hb).1 z hz
def putT (s : Bs) : List Bs → List Bs
  | [] => [s]
  | y :: l => if y = s then y :: l else if Op.bytesLess s y then s :: y :: l else y :: putT s l
theorem mem_put (s : Bs) : ∀ (l : List Bs) (z : Bs), z ∈ putT s l ↔ z = s ∨ z ∈ l
  | [], z => by simp [putT]
  | y :: l, z => by
    rw [putT]
    split
    · rename_i h; subst h; simp
    · split
      · simp
      · rw [List.mem_cons, mem_put s l, List.mem_cons]; exact or_left_comm
theorem up_put (s : Bs) : ∀ (l : List Bs), Up l → Up (putT s l)
  | [], _ => by simp [putT, Up]
  | y :: l, h => by
    rw [putT]
    split
    · exact h
    · rename_i hne
      split
      · rename_i hlt
        refine up_cons.2 ⟨fun z hz => ?_, h⟩
        rcases List.mem_cons.1 hz with rfl | hz
        · exact hlt
        · exact ltB_trans hlt ((up_cons.1 h).1 z hz)
      · rename_i hlt
        refine up_cons.2 ⟨fun z hz => ?_, up_put s l (up_cons.1 h).2⟩
        rw [mem_put] at hz
        rcases hz with rfl | hz
        · rcases ltB_total z y with h3 | h3 | h3
          · exact absurd h3 hlt
          · exact absurd h3.symm hne
          · exact h3
        · exact (up_cons.1 h).1 z hz
theorem put_len (s : Bs) : ∀ l : List Bs, (putT s l).length ≤ l.length + 1
  | [] => by simp [putT]
  | y :: l => by
    rw [putT]
    split
    · simp
    · split
      · simp
      · have := put_len s l; simp; omega
def putAll (a b : List Bs) : List Bs := b.foldl (fun o x => putT x o) a
theorem putAll_cons (a : List Bs) (x : Bs) (b : List Bs) : putAll a (x :: b) = putAll (putT x a) b := rfl
theorem putAll_snoc (a : List Bs) (x : Bs) (b : List Bs) : putAll a (b ++ [x]) = putT x (putAll a b) := by unfold putAll; rw [List.foldl_append]; rfl
theorem mem_putAll : ∀ (b a : List Bs) (z : Bs), z ∈ putAll a b ↔ z ∈ a ∨ z ∈ b
  | [], a, z => by simp [putAll]
  | x :: b, a, z => by
    rw [putAll_cons, mem_putAll b, mem_put, List.mem_cons]
    constructor
    · rintro ((h | h) | h)
      · exact .inr (.inl h)
      · exact .inl h
      · exact .inr (.inr h)
    · rintro (h | h | h)
      · exact .inl (.inr h)
      · exact .inl (.inl h)
      · exact .inr h
theorem up_putAll : ∀ (b a : List Bs), Up a → Up (putAll a b)
  | [], a, h => h
  | x :: b, a, h => by rw [putAll_cons]; exact up_putAll b _ (up_put x a h)
theorem putAll_len : ∀ (b a : List Bs), (putAll a b).length ≤ a.length + b.length
  | [], a => by simp [putAll]
  | x :: b, a => by
    rw [putAll_cons]
    have h1 := putAll_len b (putT x a)
    have h2 := put_len x a
    simp
    omega
theorem both_put {a b : List Bs} (ha : Up a) (hb : Up b) : putAll a b = bothX a b := up_ext (up_putAll b a ha) (up_both a b ha hb) fun z => by rw [mem_putAll, mem_both]
def sortT (l : List Bs) : List Bs := putAll [] l
theorem up_sort (l : List Bs) : Up (sortT l) := up_putAll l [] .nil
theorem sort_len (l : List Bs) : (sortT l).length ≤ l.length := by have := putAll_len l []; unfold sortT; simpa using this
theorem put_skip {s : Bs} : ∀ {l : List Bs} {i : Nat}, i ≤ l.length → (∀ j, j < i → ∀ y, l[j]? = some y → y ≠ s ∧ ¬ ltB s y) → putT s l = l.take i ++ putT s (l.drop i)
  | l, 0, _, _ => rfl
  | [], i + 1, h, _ => by simp at h
  | y :: l, i + 1, h, hn => by
    have h0 := hn 0 (by omega) y rfl
    rw [putT, if_neg h0.1, if_neg h0.2, List.take_succ_cons, List.drop_succ_cons, List.cons_append]
    congr 1
    exact put_skip (by simpa using h) fun j hj z hz => hn (j + 1) (by omega) z (by simpa using hz)
end Go.Proofs.YtihpnfpdocnniaaGreat
end
section
set_option linter.unusedVariables false
set_option linter.unusedSimpArgs false
set_option maxRecDepth 20000
set_option maxHeartbeats 400000
namespace Go.Proofs.YtihpnfpdocnniaaGreat
open Go Go.MV
theorem gt_yes {y s : Bs} (h : (!(Op.bytesLess y s || y == s)) = true) : ltB s y := by
 simp at h
 rcases ltB_total y s with h2 | h2 | h2
 ·exact absurd h2 (by rw [ltB, h.1]; decide)
 ·exact absurd h2 h.2
 ·exact h2
theorem gt_no {y s : Bs} (h : (!(Op.bytesLess y s || y == s)) = false) : ¬ ltB s y := by
 intro h2
 simp at h
 by_cases h3 : Op.bytesLess y s = true
 ·exact ltB_asymm h2 h3
 ·have := h (by simpa using h3)
  subst this
  exact ltB_irrefl _ h2
theorem dropJ {α : Type} {l : List α} {i : Nat} {a : α} (h : l[i]? = some a) : l.drop i = a :: l.drop (i + 1) := by
 obtain ⟨hlt, e⟩ := List.getElem?_eq_some_iff.1 h
 rw [List.drop_eq_getElem_cons hlt, e]
theorem putAll_take {a b : List Bs} {i : Nat} {x : Bs} (h : b[i]? = some x) : putAll a (b.take (i + 1)) = putT x (putAll a (b.take i)) := by rw [List.take_add_one, h, Option.toList_some, putAll_snoc]
theorem putAll_take_len (a b : List Bs) (i : Nat) : (putAll a (b.take i)).length ≤ a.length + b.length := by
 have := putAll_len (b.take i) a
 rw [List.length_take] at this
 omega
theorem rPut_spec (l : List Bs) (s : Bs) (hl : l.length ≤ 100000) (S : MS) : MCalls Tryz.prog 26 [.lst none 1 (l.map encX), encX s] S fun v σ' => v = .lst none 1 ((putT s l).map encX) ∧ σ' = S := by
 refine mcalls_body Tryz.func26 rfl Tryz.ntmps26 (Nat.le_of_ble_eq_true rfl) ?_
 refine mwp_len (t := 0) rfl fun hlen => ?_
 rw [List.length_map] at hlen
 refine mwp_seq <| qR rfl <| qA rfl rfl rfl <| qN <| mwp_seq <| mwp_seq <| qR rfl <| qA rfl rfl rfl <| qN <| mwp_block ?_
 refine mwp_loopK (α := Nat) [(0, _), (1, _)] (fun i => [(5, .int .i64 (i : Int))]) (fun i => []) (fun i => i ≤ l.length ∧ ∀ j, j < i → ∀ y, l[j]? = some y → y ≠ s ∧ ¬ ltB s y) (fun i => l.length - i) (0) (.keep rfl (.keep rfl (.nil))) (.keep rfl (.nil)) (⟨by omega, fun j hj => by omega⟩) (rfl) ?_
 rintro i ⟨hi, hall⟩
 refine mwp_seq <| mwp_seq <| qR rfl <| qM rfl rfl rfl <| qM rfl rfl rfl <| qE rfl rfl Tryz.underlying24 rfl <| qC rfl rfl rfl rfl rfl <| qN ?_
 refine mwp_cond_split rfl (fun h9 => ?_) (fun h9 => ?_)
 ·
  have hlt : i < l.length := by simpa using h9
  obtain ⟨y, hs⟩ : ∃ q_, l[i]? = some q_ := ⟨_, List.getElem?_eq_getElem hlt⟩
  refine mwp_skip <| mwp_seq <| mwp_block <| mwp_seq <| mwp_seq <| qR rfl <| qM rfl rfl rfl <| qM rfl rfl rfl <| qO rfl <| op_indexAddr rfl Tryz.underlying24 sz9 (by decide) rfl rfl rfl (get_map hs) ?_
  refine qO rfl <| op_load_sptr rfl rfl ta9 rfl <| qM rfl rfl rfl <| qO rfl <| op_strcmp rfl rfl rfl rfl <| qN ?_
  refine mwp_cond_split rfl (fun h17 => ?_) (fun h17 => ?_)
  ·
   have heq : y = s := by simpa using h17
   refine mwp_seq <| qR rfl <| qM rfl rfl rfl <| qA rfl rfl rfl <| qN <| mwp_ret ?_
   exact ret_tmp (.inr rfl) Tryz.results26 rfl (.of_eq (by rw [put_skip (by omega) hall, dropJ hs, putT, if_pos heq, ← dropJ hs, List.take_append_drop])) (cl_texts _ _) ⟨rfl, rfl⟩
  ·
   have hne : ¬ y = s := by simpa using h17
   refine mwp_skip <| mwp_seq <| qR rfl <| qM rfl rfl rfl <| qM rfl rfl rfl <| qO rfl <| op_indexAddr rfl Tryz.underlying24 sz9 (by decide) rfl rfl rfl (get_map hs) ?_
   refine qO rfl <| op_load_sptr rfl rfl ta9 rfl <| qM rfl rfl rfl <| qO rfl <| op_strcmp rfl rfl rfl rfl <| qN ?_
   refine mwp_cond_split rfl (fun h24 => ?_) (fun h24 => ?_)
   ·
    have hgr := gt_yes h24
    refine mwp_seq ?_
    refine mwp_draw [3, 6, 10] [_, S ++ [.row 9 1 (List.take (i - 0) (List.drop 0 (l.map encX))).length], S ++ [.row 9 1 ((List.take (i - 0) (List.drop 0 (l.map encX))).length + 1)], S ++ [.row 9 1 ((List.take (i - 0) (List.drop 0 (l.map encX))).length + 1 + (List.take ((l.map encX).length - i) (List.drop i (l.map encX))).length)]] mo (by decide) rfl rfl rfl rfl ?_
    refine dOps_op rfl rfl (.cons (op_move rfl rfl ⟨rfl, rfl⟩) (.cons (op_move rfl rfl ⟨rfl, rfl⟩) (.cons (op_move rfl rfl ⟨rfl, rfl⟩) (.cons (op_move rfl rfl ⟨rfl, rfl⟩) (.nil))))) <| dOps_op rfl rfl (.cons (op_move rfl rfl ⟨rfl, rfl⟩) (.cons (op_move rfl rfl ⟨rfl, rfl⟩) (.cons (op_move rfl rfl ⟨rfl, rfl⟩) (.cons (op_move rfl rfl ⟨rfl, rfl⟩) (.nil))))) <| dO rfl rfl rfl (op_slice rfl Tryz.underlying24 sz9 rfl .none (.some rfl rfl) (by first | omega | (simp only [List.length_map]; omega)) (by first | omega | (simp only [List.length_map]; omega)) ⟨rfl, rfl⟩) ?_
    refine dOps_eff rfl rfl rfl rfl (op_append0' rfl Tryz.underlying24 el9 rfl rfl (by simp; omega) (by simp; omega) rfl rfl ⟨rfl, rfl⟩) ?_
    refine dOps_op rfl rfl (.cons (op_move rfl rfl ⟨rfl, rfl⟩) (.cons (op_move rfl rfl ⟨rfl, rfl⟩) (.cons (op_move rfl rfl ⟨rfl, rfl⟩) (.cons (op_move rfl rfl ⟨rfl, rfl⟩) (.nil))))) <| dOps_op rfl rfl (.cons (op_buildSlice rfl Tryz.underlying24 el9 rfl rfl (by decide) (by decide) rfl rfl ⟨rfl, rfl⟩) (.cons (op_buildSlice rfl Tryz.underlying24 el9 rfl rfl (by decide) (by decide) rfl rfl ⟨rfl, rfl⟩) (.nil))) ?_
    refine dOps_eff rfl rfl rfl rfl (op_append' rfl Tryz.underlying24 el9 rfl rfl rfl (by simp) (by simp; omega) (by simp; omega) rfl ⟨rfl, rfl⟩) ?_
    refine dOps_op rfl rfl (.cons (op_move rfl rfl ⟨rfl, rfl⟩) (.cons (op_move rfl rfl ⟨rfl, rfl⟩) (.cons (op_move rfl rfl ⟨rfl, rfl⟩) (.cons (op_move rfl rfl ⟨rfl, rfl⟩) (.nil))))) <| dOps_op rfl rfl (.cons (op_move rfl rfl ⟨rfl, rfl⟩) (.cons (op_move rfl rfl ⟨rfl, rfl⟩) (.cons (op_move rfl rfl ⟨rfl, rfl⟩) (.cons (op_move rfl rfl ⟨rfl, rfl⟩) (.nil))))) <| dOps_op rfl rfl (.cons (op_slice rfl Tryz.underlying24 sz9 rfl (.some rfl rfl) .none (by first | omega | (simp only [List.length_map]; omega)) (by first | omega | (simp only [List.length_map]; omega)) ⟨rfl, rfl⟩) (.cons (op_slice rfl Tryz.underlying24 sz9 rfl (.some rfl rfl) .none (by first | omega | (simp only [List.length_map]; omega)) (by first | omega | (simp only [List.length_map]; omega)) ⟨rfl, rfl⟩) (.cons (op_slice rfl Tryz.underlying24 sz9 rfl (.some rfl rfl) .none (by first | omega | (simp only [List.length_map]; omega)) (by first | omega | (simp only [List.length_map]; omega)) ⟨rfl, rfl⟩) (.nil)))) ?_
    refine dOps_eff rfl rfl rfl rfl (op_append' rfl Tryz.underlying24 el9 rfl rfl rfl (by simp) (by simp; omega) (by simp; omega) rfl ⟨rfl, rfl⟩) ?_
    refine dO rfl rfl rfl (op_assign rfl rfl ⟨rfl, rfl⟩) <| dOps_nil <| mwp_ret ?_
    exact ret_tmp (.inr rfl) Tryz.results26 rfl (Sub.trans (.view _ _ _) (.of_eq (by rw [put_skip (by omega) hall, dropJ hs, putT, if_neg hne, if_pos hgr, ← dropJ hs]; simp [List.take_of_length_le]))) (cl_texts _ _) ⟨rfl, rfl⟩
   ·
    have hng := gt_no h24
    refine mwp_skip <| qR rfl <| qM rfl rfl rfl <| qO rfl <| op_arith rfl rfl rfl rfl <| qA rfl rfl rfl <| qN ?_
    refine ⟨i + 1, by omega, ⟨by omega, fun j hj z hz => ?_⟩, rfl, (.keep rfl (.keep rfl (.nil))), (.eq rfl (int_succ hlt hlen) (.nil))⟩
    by_cases e : j = i
    ·subst e; rw [hs] at hz; injection hz with hz; subst hz; exact ⟨hne, hng⟩
    ·exact hall j (by omega) z hz
 ·
  have hge : i = l.length := by simp at h9; omega
  refine mwp_exit <| mwp_seq <| qR rfl <| qM rfl rfl rfl <| qO rfl <| op_append0' rfl Tryz.underlying24 el9 rfl rfl (by simp; omega) (by simp; omega) rfl rfl ?_
  refine qM rfl rfl rfl <| qO rfl <| op_buildSlice rfl Tryz.underlying24 el9 rfl rfl (by decide) (by decide) rfl rfl ?_
  refine qO rfl <| op_append' rfl Tryz.underlying24 el9 rfl rfl rfl (by simp) (by simp; omega) (by simp; omega) rfl ?_
  refine qA rfl rfl rfl <| qN <| mwp_ret ?_
  exact ret_tmp (.inr rfl) Tryz.results26 rfl (Sub.trans (.view _ _ _) (.of_eq (by rw [put_skip (by omega) hall, hge, List.take_length, List.drop_length, putT, List.map_append]; rfl))) (cl_texts _ _) ⟨rfl, rfl⟩
theorem rBoth_spec (a b : List Bs) (hab : a.length + b.length ≤ 99999) (S : MS) : MCalls Tryz.prog 14 [.lst none 1 (a.map encX), .lst none 1 (b.map encX)] S fun v σ' => v = .lst none 1 ((putAll a b).map encX) ∧ σ' = S := by
 refine mcalls_body Tryz.func14 rfl Tryz.ntmps14 (Nat.le_of_ble_eq_true rfl) ?_
 refine mwp_len (t := 1) rfl fun hlen => ?_
 rw [List.length_map] at hlen
 refine mwp_seq <| qR rfl <| qA rfl rfl rfl <| qN <| mwp_seq <| qR rfl <| qM rfl rfl rfl <| qO rfl <| op_viewTo (y := .lst none 1 (a.map encX)) (op_append0' rfl Tryz.underlying24 el9 rfl rfl (by simp; omega) (by simp; omega) rfl rfl ⟨rfl, rfl⟩) (.view _ _ _) ?_
 refine qA rfl rfl rfl <| qN <| mwp_seq <| mwp_seq <| qR rfl <| qA rfl rfl rfl <| qN <| mwp_block ?_
 refine mwp_loopK (α := Nat) [(1, _)] (fun i => [(5, .lst none 1 ((putAll a (b.take i)).map encX)), (6, .int .i64 (i : Int))]) (fun i => [.row 9 1 (a.map encX).length]) (fun i => i ≤ b.length) (fun i => b.length - i) (0) (.keep rfl (.nil)) (.keep rfl (.keep rfl (.nil))) (by omega) (rfl) ?_
 rintro i hi
 refine mwp_seq <| mwp_seq <| qR rfl <| qM rfl rfl rfl <| qM rfl rfl rfl <| qE rfl rfl Tryz.underlying24 rfl <| qC rfl rfl rfl rfl rfl <| qN ?_
 refine mwp_cond_split rfl (fun h12 => ?_) (fun h12 => ?_)
 ·
  have hlt : i < b.length := by simpa using h12
  obtain ⟨x, hs⟩ : ∃ q_, b[i]? = some q_ := ⟨_, List.getElem?_eq_getElem hlt⟩
  refine mwp_skip <| mwp_seq <| mwp_block <| qR rfl <| qM rfl rfl rfl <| qM rfl rfl rfl <| qM rfl rfl rfl <| qO rfl <| op_indexAddr rfl Tryz.underlying24 sz9 (by decide) rfl rfl rfl (get_map hs) ?_
  refine qO rfl <| op_load_sptr rfl rfl ta9 rfl ?_
  refine wOps_op rfl (op_call rfl rfl rfl co26 ((rPut_spec (putAll a (b.take i)) x (by have := putAll_take_len a b i; omega) _).mono ?_))
  rintro _ _ ⟨rfl, rfl⟩
  refine qA rfl rfl rfl <| qN <| qR rfl <| qM rfl rfl rfl <| qO rfl <| op_arith rfl rfl rfl rfl <| qA rfl rfl rfl <| qN ?_
  refine ⟨i + 1, by omega, by omega, rfl, (.keep rfl (.nil)), (.eq rfl (by rw [putAll_take hs]) (.eq rfl (int_succ hlt hlen) (.nil)))⟩
 ·
  have hge : i = b.length := by simp at h12; omega
  refine mwp_exit <| mwp_seq <| qR rfl <| qM rfl rfl rfl <| qA rfl rfl rfl <| qN <| mwp_ret ?_
  exact ret_tmp (.inr rfl) Tryz.results14 rfl (.of_eq (by rw [hge, List.take_length])) (cl_texts _ _) ⟨rfl, rfl⟩
theorem rSort_spec (l : List Bs) (hl : l.length ≤ 99999) (S : MS) : MCalls Tryz.prog 18 [.lst none 1 (l.map encX)] S fun v σ' => v = .lst none 1 ((sortT l).map encX) ∧ σ' = S := by
 refine mcalls_body Tryz.func18 rfl Tryz.ntmps18 (Nat.le_of_ble_eq_true rfl) ?_
 refine mwp_len (t := 0) rfl fun hlen => ?_
 rw [List.length_map] at hlen
 refine mwp_seq <| qR rfl <| qA rfl rfl rfl <| qN <| mwp_seq <| qR rfl <| qA rfl rfl rfl <| qN <| mwp_seq <| mwp_seq <| qR rfl <| qA rfl rfl rfl <| qN <| mwp_block ?_
 refine mwp_loopK (α := Nat) [(0, _)] (fun i => [(3, .lst none 1 ((putAll [] (l.take i)).map encX)), (4, .int .i64 (i : Int))]) (fun i => []) (fun i => i ≤ l.length) (fun i => l.length - i) (0) (.keep rfl (.nil)) (.cons rfl (.nil 1) (.keep rfl (.nil))) (by omega) (rfl) ?_
 rintro i hi
 refine mwp_seq <| mwp_seq <| qR rfl <| qM rfl rfl rfl <| qM rfl rfl rfl <| qE rfl rfl Tryz.underlying24 rfl <| qC rfl rfl rfl rfl rfl <| qN ?_
 refine mwp_cond_split rfl (fun h8 => ?_) (fun h8 => ?_)
 ·
  have hlt : i < l.length := by simpa using h8
  obtain ⟨x, hs⟩ : ∃ q_, l[i]? = some q_ := ⟨_, List.getElem?_eq_getElem hlt⟩
  refine mwp_skip <| mwp_seq <| mwp_block <| qR rfl <| qM rfl rfl rfl <| qM rfl rfl rfl <| qM rfl rfl rfl <| qO rfl <| op_indexAddr rfl Tryz.underlying24 sz9 (by decide) rfl rfl rfl (get_map hs) ?_
  refine qO rfl <| op_load_sptr rfl rfl ta9 rfl ?_
  refine wOps_op rfl (op_call rfl rfl rfl co26 ((rPut_spec (putAll [] (l.take i)) x (by have := putAll_take_len [] l i; simp only [List.length_nil] at this; omega) _).mono ?_))
  rintro _ _ ⟨rfl, rfl⟩
  refine qA rfl rfl rfl <| qN <| qR rfl <| qM rfl rfl rfl <| qO rfl <| op_arith rfl rfl rfl rfl <| qA rfl rfl rfl <| qN ?_
  refine ⟨i + 1, by omega, by omega, rfl, (.keep rfl (.nil)), (.eq rfl (by rw [putAll_take hs]) (.eq rfl (int_succ hlt hlen) (.nil)))⟩
 ·
  have hge : i = l.length := by simp at h8; omega
  refine mwp_exit <| mwp_seq <| qR rfl <| qM rfl rfl rfl <| qA rfl rfl rfl <| qN <| mwp_ret ?_
  exact ret_tmp (.inr rfl) Tryz.results18 rfl (.of_eq (by rw [hge, List.take_length]; rfl)) (cl_texts _ _) ⟨rfl, rfl⟩
theorem rBothT_spec (a b : List Bs) (ha : Up a) (hb : Up b) (hab : a.length + b.length ≤ 99999) (S : MS) : MCalls Tryz.prog 14 [.lst none 1 (a.map encX), .lst none 1 (b.map encX)] S fun v σ' => v = .lst none 1 ((bothX a b).map encX) ∧ σ' = S := by
 rw [← both_put ha hb]
 exact rBoth_spec a b hab S
end Go.Proofs.YtihpnfpdocnniaaGreat
end
section
set_option linter.unusedVariables false
set_option linter.unusedSimpArgs false
set_option maxRecDepth 20000
set_option maxHeartbeats 400000
namespace Go.Proofs.YtihpnfpdocnniaaGreat
open Go Go.MV
theorem is_set (A : List Bs) : isVF (.mk 3 []) (.mk 0 0 A [] []) = isRowF A := by
 rw [isVF_mk 3]
 simp [bareF, numsK, textsK, clocksK, valuesK, Val.nv, Val.mv, Val.sv, Val.cv, Val.vv]
theorem both_set (A B : List Bs) : bothF (.mk 3 []) (.mk 0 0 A [] []) (.mk 0 0 B [] []) = if 40 < (bothX A B).length then none else some (.mk 0 0 (bothX A B) [] []) := by
 rw [bothF_mk, show bothB 3 (bothL []) (.mk 0 0 A [] []) (.mk 0 0 B [] []) = some (.mk 0 0 (bothX A B) [] []) from rfl]
 have hl : largeF (.mk 0 0 (bothX A B) [] []) = decide (40 < (bothX A B).length) := by rw [large_eq]; simp
 by_cases h : 40 < (bothX A B).length
 ·rw [cap_t (by rw [hl]; exact decide_eq_true h), if_pos h]
 ·rw [cap_f (by rw [hl]; exact decide_eq_false h), if_neg h]
end Go.Proofs.YtihpnfpdocnniaaGreat
end
section
set_option linter.unusedVariables false
set_option linter.unusedSimpArgs false
set_option maxRecDepth 20000
set_option maxHeartbeats 400000
namespace Go.Proofs.YtihpnfpdocnniaaGreat
open Go Go.MV
def sP2 : Sch := .mk 5 [.mk 3 [], .mk 1 []]
def sP1 : Sch := .mk 5 [.mk 1 [], sP2]
def vP2 (A : List Bs) (c : Int) : Val := .mk 0 0 [] [] [.mk 0 0 A [] [], .mk c 0 [] [] []]
def vP1 (a : Int) (A : List Bs) (c : Int) : Val := .mk 0 0 [] [] [.mk a 0 [] [] [], vP2 A c]
theorem is_pair {t u : Sch} {x y : Val} : isVF (.mk 5 [t, u]) (.mk 0 0 [] [] [x, y]) = (isVF t x && isVF u y) := by
 rw [isVF_mk 5]
 simp [isVL, bareF, numsK, textsK, clocksK, valuesK, Val.nv, Val.mv, Val.sv, Val.cv, Val.vv]
theorem is_vP (a : Int) (A : List Bs) (c : Int) : isVF sP1 (vP1 a A c) = isRowF A := by
 unfold sP1 vP1 sP2 vP2
 rw [is_pair, is_pair, is_num, is_num, is_set]
 simp
theorem both_pair {t u : Sch} {x y x2 y2 z w : Val} (h1 : bothF t x x2 = some z) (h2 : bothF u y y2 = some w) : bothF (.mk 5 [t, u]) (.mk 0 0 [] [] [x, y]) (.mk 0 0 [] [] [x2, y2]) = some (.mk 0 0 [] [] [z, w]) := by
 rw [bothF_mk, show bothB 5 (bothL [t, u]) (.mk 0 0 [] [] [x, y]) (.mk 0 0 [] [] [x2, y2]) = some (.mk 0 0 [] [] [z, w]) from ?_]
 ·exact cap_f (by rw [large_eq]; simp)
 ·simp [bothB, bothL, pairF2, goP, Val.vv, h1, h2]
theorem both_vP {a b c d : Int} {A B : List Bs} (h : A.length + B.length ≤ 40) : bothF sP1 (vP1 a A c) (vP1 b B d) = some (vP1 (max a b) (bothX A B) (max c d)) := by
 unfold sP1 vP1
 refine both_pair (both_num a b) ?_
 unfold sP2 vP2
 refine both_pair ?_ (both_num c d)
 rw [both_set, if_neg (by have := both_len A B; omega)]
theorem f_sP : isF 16 sP1 = true := by decide
theorem okV_vP {a c : Int} {A : List Bs} (ha : 0 ≤ a ∧ a < 18446744073709551616) (hc : 0 ≤ c ∧ c < 18446744073709551616) : okV (vP1 a A c) := by simp [vP1, vP2, okV, okVs]; omega
theorem JoinPairs_spec (a b c d : Int) (s t : List Bs) (ha : (0 ≤ a ∧ a < 18446744073709551616)) (hb : (0 ≤ b ∧ b < 18446744073709551616)) (hc : (0 ≤ c ∧ c < 18446744073709551616)) (hd : (0 ≤ d ∧ d < 18446744073709551616)) (S : MS) : MCalls Tryz.prog 6 [.int .u64 a, .int .u64 b, .int .u64 c, .int .u64 d, .lst none 1 (s.map encX), .lst none 1 (t.map encX)] S fun v σ' => v = .bool true ∧ σ' = S := by
 refine mcalls_body Tryz.func6 rfl Tryz.ntmps6 (Nat.le_of_ble_eq_true rfl) ?_
 refine mwp_seq <| qR rfl <| qA rfl rfl rfl <| qN <| mwp_seq <| mwp_seq <| qR rfl ?_
 refine wOps_op rfl (op_call rfl rfl rfl co10 ((knownJ_spec _).mono ?_))
 rintro _ _ ⟨rfl, rfl⟩
 refine qO rfl <| op_not rfl rfl <| qN <| mwp_cond_f rfl (rfl) <| mwp_skip <| mwp_seq <| mwp_seq <| qR rfl <| qM rfl rfl rfl <| qE rfl rfl Tryz.underlying24 rfl <| qC rfl rfl rfl rfl rfl <| qM rfl rfl rfl ?_
 refine wOps_case (fun h23 => ?_) (fun h23 => ?_)
 ·
  refine qS rfl <| qS rfl <| qS rfl <| qP rfl rfl rfl rfl <| qN <| mwp_cond_t rfl (rfl) <| mwp_seq <| qR rfl <| qA rfl rfl rfl <| qN <| mwp_ret ?_
  exact ret_tmp (.inr rfl) Tryz.results6 rfl (.of_eq (rfl)) (.bool _) ⟨rfl, rfl⟩
 ·
  have hsl : s.length ≤ 15 := by rw [List.length_map] at h23; have := of_decide_eq_false h23; omega
  refine qM rfl rfl rfl <| qE rfl rfl Tryz.underlying24 rfl <| qC rfl rfl rfl rfl rfl <| qP rfl rfl rfl rfl <| qN ?_
  refine mwp_cond_split rfl (fun h27 => ?_) (fun h27 => ?_)
  ·
   refine mwp_seq <| qR rfl <| qA rfl rfl rfl <| qN <| mwp_ret ?_
   exact ret_tmp (.inr rfl) Tryz.results6 rfl (.of_eq (rfl)) (.bool _) ⟨rfl, rfl⟩
  ·
   have htl : t.length ≤ 15 := by rw [List.length_map] at h27; have := of_decide_eq_false h27; omega
   have hss := sort_len s
   have hst := sort_len t
   have hoX := okV_vP (A := sortT s) ha hc
   have hoY := okV_vP (A := sortT t) hb hd
   refine mwp_skip <| mwp_seq <| qR rfl ?_
   refine wOps_op rfl (op_call rfl rfl rfl co12 (((lawOf_spec 1 [] _).sub (.cons (.refl _) (.cons (.nil 2) .nil))).mono ?_))
   rintro _ _ ⟨rfl, rfl⟩
   refine wOps_op rfl (op_call rfl rfl rfl co12 (((lawOf_spec 3 [] _).sub (.cons (.refl _) (.cons (.nil 2) .nil))).mono ?_))
   rintro _ _ ⟨rfl, rfl⟩
   refine wOps_op rfl (op_call rfl rfl rfl co12 (((lawOf_spec 1 [] _).sub (.cons (.refl _) (.cons (.nil 2) .nil))).mono ?_))
   rintro _ _ ⟨rfl, rfl⟩
   refine qO rfl <| op_buildSlice rfl Tryz.underlying33 el35 rfl rfl (by decide) (by decide) rfl rfl ?_
   refine wOps_op rfl (op_call rfl rfl rfl co12 ((lawOf_spec 5 [.mk 3 [], .mk 1 []] _).mono ?_))
   rintro _ _ ⟨rfl, rfl⟩
   refine qO rfl <| op_buildSlice rfl Tryz.underlying33 el35 rfl rfl (by decide) (by decide) rfl rfl ?_
   refine wOps_op rfl (op_call rfl rfl rfl co12 ((lawOf_spec 5 [.mk 1 [], sP2] _).mono ?_))
   rintro _ _ ⟨rfl, rfl⟩
   refine qO rfl <| op_alloc' rfl zm35 rfl rfl <| qO rfl <| op_store' rfl rfl rfl rfl sz35 rfl rfl (Nat.le_of_ble_eq_true rfl) rfl <| qN <| mwp_seq <| qR rfl <| qM rfl rfl rfl <| qO rfl <| op_viewTo (y := encV (.mk a 0 [] [] [])) (op_build rfl Tryz.underlying28 zm28 (.cons fo28_0 sz22 rfl rfl (Nat.le_of_ble_eq_true rfl) .nil) (by kernel_rfl) ⟨rfl, rfl⟩) (.agg (.cons (.refl _) (.cons (.refl _) (.cons (.nil 1) (.cons (.nil 1) (.cons (.nil 5) .nil)))))) ?_
   refine qM rfl rfl rfl ?_
   refine wOps_op rfl (op_call rfl rfl rfl co18 ((rSort_spec s (by omega) _).mono ?_))
   rintro _ _ ⟨rfl, rfl⟩
   refine qO rfl <| op_viewTo (y := encV (.mk 0 0 (sortT s) [] [])) (op_build rfl Tryz.underlying28 zm28 (.cons fo28_2 sz24 rfl rfl (Nat.le_of_ble_eq_true rfl) .nil) (by kernel_rfl) ⟨rfl, rfl⟩) (.agg (.cons (.refl _) (.cons (.refl _) (.cons (.refl _) (.cons (.nil 1) (.cons (.nil 5) .nil)))))) ?_
   refine qM rfl rfl rfl <| qO rfl <| op_viewTo (y := encV (.mk c 0 [] [] [])) (op_build rfl Tryz.underlying28 zm28 (.cons fo28_0 sz22 rfl rfl (Nat.le_of_ble_eq_true rfl) .nil) (by kernel_rfl) ⟨rfl, rfl⟩) (.agg (.cons (.refl _) (.cons (.refl _) (.cons (.nil 1) (.cons (.nil 1) (.cons (.nil 5) .nil)))))) ?_
   refine qO rfl <| op_buildSlice rfl Tryz.underlying26 el28 rfl rfl (by decide) (by decide) rfl rfl ?_
   refine qO rfl <| op_viewTo (y := encV (vP2 (sortT s) c)) (op_build rfl Tryz.underlying28 zm28 (.cons fo28_4 sz26 rfl rfl (Nat.le_of_ble_eq_true rfl) .nil) (by kernel_rfl) ⟨rfl, rfl⟩) (.agg (.cons (.refl _) (.cons (.refl _) (.cons (.nil 1) (.cons (.nil 1) (.cons (.refl _) .nil)))))) ?_
   refine qO rfl <| op_buildSlice rfl Tryz.underlying26 el28 rfl rfl (by decide) (by decide) rfl rfl ?_
   refine qO rfl <| op_viewTo (y := encV (vP1 a (sortT s) c)) (op_build rfl Tryz.underlying28 zm28 (.cons fo28_4 sz26 rfl rfl (Nat.le_of_ble_eq_true rfl) .nil) (by kernel_rfl) ⟨rfl, rfl⟩) (.agg (.cons (.refl _) (.cons (.refl _) (.cons (.nil 1) (.cons (.nil 1) (.cons (.refl _) .nil)))))) ?_
   refine qO rfl <| op_alloc' rfl zm28 rfl rfl <| qO rfl <| op_store' rfl rfl rfl rfl sz28 rfl rfl (Nat.le_of_ble_eq_true rfl) rfl <| qN <| mwp_seq <| qR rfl <| qM rfl rfl rfl <| qO rfl <| op_viewTo (y := encV (.mk b 0 [] [] [])) (op_build rfl Tryz.underlying28 zm28 (.cons fo28_0 sz22 rfl rfl (Nat.le_of_ble_eq_true rfl) .nil) (by kernel_rfl) ⟨rfl, rfl⟩) (.agg (.cons (.refl _) (.cons (.refl _) (.cons (.nil 1) (.cons (.nil 1) (.cons (.nil 5) .nil)))))) ?_
   refine qM rfl rfl rfl ?_
   refine wOps_op rfl (op_call rfl rfl rfl co18 ((rSort_spec t (by omega) _).mono ?_))
   rintro _ _ ⟨rfl, rfl⟩
   refine qO rfl <| op_viewTo (y := encV (.mk 0 0 (sortT t) [] [])) (op_build rfl Tryz.underlying28 zm28 (.cons fo28_2 sz24 rfl rfl (Nat.le_of_ble_eq_true rfl) .nil) (by kernel_rfl) ⟨rfl, rfl⟩) (.agg (.cons (.refl _) (.cons (.refl _) (.cons (.refl _) (.cons (.nil 1) (.cons (.nil 5) .nil)))))) ?_
   refine qM rfl rfl rfl <| qO rfl <| op_viewTo (y := encV (.mk d 0 [] [] [])) (op_build rfl Tryz.underlying28 zm28 (.cons fo28_0 sz22 rfl rfl (Nat.le_of_ble_eq_true rfl) .nil) (by kernel_rfl) ⟨rfl, rfl⟩) (.agg (.cons (.refl _) (.cons (.refl _) (.cons (.nil 1) (.cons (.nil 1) (.cons (.nil 5) .nil)))))) ?_
   refine qO rfl <| op_buildSlice rfl Tryz.underlying26 el28 rfl rfl (by decide) (by decide) rfl rfl ?_
   refine qO rfl <| op_viewTo (y := encV (vP2 (sortT t) d)) (op_build rfl Tryz.underlying28 zm28 (.cons fo28_4 sz26 rfl rfl (Nat.le_of_ble_eq_true rfl) .nil) (by kernel_rfl) ⟨rfl, rfl⟩) (.agg (.cons (.refl _) (.cons (.refl _) (.cons (.nil 1) (.cons (.nil 1) (.cons (.refl _) .nil)))))) ?_
   refine qO rfl <| op_buildSlice rfl Tryz.underlying26 el28 rfl rfl (by decide) (by decide) rfl rfl ?_
   refine qO rfl <| op_viewTo (y := encV (vP1 b (sortT t) d)) (op_build rfl Tryz.underlying28 zm28 (.cons fo28_4 sz26 rfl rfl (Nat.le_of_ble_eq_true rfl) .nil) (by kernel_rfl) ⟨rfl, rfl⟩) (.agg (.cons (.refl _) (.cons (.refl _) (.cons (.nil 1) (.cons (.nil 1) (.cons (.refl _) .nil)))))) ?_
   refine qO rfl <| op_alloc' rfl zm28 rfl rfl <| qO rfl <| op_store' rfl rfl rfl rfl sz28 rfl rfl (Nat.le_of_ble_eq_true rfl) rfl <| qN <| mwp_seq ?_
   by_cases hx : isRowF (sortT s) = true <;> by_cases hy : isRowF (sortT t) = true
   ·
    have hof := join_at hoX hoY (join_ok_of f_sP ((is_vP a _ c).trans hx) ((is_vP b _ d).trans hy) (both_vP (a := a) (b := b) (c := c) (d := d) (A := sortT s) (B := sortT t) (by omega)))
    refine qR rfl <| qL rfl rfl rfl rfl ta35 rfl <| qL rfl rfl rfl rfl ta28 rfl <| qL rfl rfl rfl rfl ta28 rfl ?_
    refine wOps_op rfl (op_call rfl rfl rfl co11 ((hof _).mono ?_))
    rintro _ _ ⟨rfl, rfl⟩
    refine qM rfl rfl rfl <| qO rfl <| op_extract rfl rfl rfl <| qO rfl <| op_extract rfl rfl rfl <| qO rfl <| op_alloc' rfl zm28 rfl rfl <| qO rfl <| op_store' rfl rfl rfl rfl sz28 rfl rfl (Nat.le_of_ble_eq_true rfl) rfl <| qA rfl rfl rfl <| qN <| mwp_seq <| mwp_seq <| qR rfl <| qL rfl rfl rfl rfl ta35 rfl <| qL rfl rfl rfl rfl ta28 rfl ?_
    refine wOps_op rfl (op_call rfl rfl rfl co19 ((rValIs_spec sP1 (vP1 a (sortT s) c) hoX _).mono ?_))
    rintro _ _ ⟨rfl, rfl⟩
    rw [show (isF 16 sP1 && isVF sP1 (vP1 a (sortT s) c)) = true by rw [f_sP, is_vP, hx]; rfl]
    refine qO rfl <| op_not rfl rfl <| qM rfl rfl rfl <| qL rfl rfl rfl rfl ta35 rfl <| qL rfl rfl rfl rfl ta28 rfl ?_
    refine wOps_op rfl (op_call rfl rfl rfl co19 ((rValIs_spec sP1 (vP1 b (sortT t) d) hoY _).mono ?_))
    rintro _ _ ⟨rfl, rfl⟩
    rw [show (isF 16 sP1 && isVF sP1 (vP1 b (sortT t) d)) = true by rw [f_sP, is_vP, hy]; rfl]
    refine qO rfl <| op_not rfl rfl <| qP rfl rfl rfl rfl <| qN <| mwp_cond_f rfl (rfl) <| mwp_skip <| mwp_seq ?_
    refine mwp_draw [] [_] mo (by decide) rfl rfl rfl rfl ?_
    refine dO rfl rfl rfl (op_move rfl rfl ⟨rfl, rfl⟩) <| dOps_op rfl rfl (.cons (op_if0 rfl Tryz.underlying30 rfl rfl (.inl ⟨rfl, rfl⟩) ⟨rfl, rfl⟩) .nil) <| dO rfl rfl rfl (op_move rfl rfl ⟨rfl, rfl⟩) <| dO rfl rfl rfl (op_fieldAddr_ref rfl rfl fo28_4 ⟨rfl, rfl⟩) <| dO rfl rfl rfl (op_load' rfl rfl rfl ta26 rfl ⟨rfl, rfl⟩) <| dO rfl rfl rfl (op_len_lst rfl Tryz.underlying26 rfl ⟨rfl, rfl⟩) <| dO rfl rfl rfl (op_cmp rfl rfl rfl (show _ = some true from rfl) ⟨rfl, rfl⟩) <| dO rfl rfl rfl (op_pick rfl rfl rfl ⟨rfl, rfl⟩) <| dO rfl rfl rfl (op_move rfl rfl ⟨rfl, rfl⟩) <| dO rfl rfl rfl (op_fieldAddr_ref rfl rfl fo28_4 ⟨rfl, rfl⟩) <| dO rfl rfl rfl (op_load' rfl rfl rfl ta26 rfl ⟨rfl, rfl⟩) <| dO rfl rfl rfl (op_indexAddr rfl Tryz.underlying26 sz28 (by decide) rfl rfl rfl (show _ = some (encV (vP2 (bothX (sortT s) (sortT t)) (max c d))) from rfl) ⟨rfl, rfl⟩) ?_
    refine dO rfl rfl rfl (op_fieldAddr_sptr rfl rfl fo28_4 ⟨rfl, rfl⟩) <| dO rfl rfl rfl (op_load_sptr rfl rfl ta26 rfl ⟨rfl, rfl⟩) <| dO rfl rfl rfl (op_len_lst rfl Tryz.underlying26 rfl ⟨rfl, rfl⟩) <| dO rfl rfl rfl (op_cmp rfl rfl rfl (show _ = some true from rfl) ⟨rfl, rfl⟩) <| dO rfl rfl rfl (op_pick rfl rfl rfl ⟨rfl, rfl⟩) <| dO rfl rfl rfl (op_move rfl rfl ⟨rfl, rfl⟩) <| dO rfl rfl rfl (op_fieldAddr_ref rfl rfl fo28_4 ⟨rfl, rfl⟩) <| dO rfl rfl rfl (op_load' rfl rfl rfl ta26 rfl ⟨rfl, rfl⟩) <| dO rfl rfl rfl (op_indexAddr rfl Tryz.underlying26 sz28 (by decide) rfl rfl rfl (show _ = some (encV (.mk (max a b) 0 [] [] [])) from rfl) ⟨rfl, rfl⟩) ?_
    refine dO rfl rfl rfl (op_fieldAddr_sptr rfl rfl fo28_0 ⟨rfl, rfl⟩) <| dO rfl rfl rfl (op_load_sptr rfl rfl ta22 rfl ⟨rfl, rfl⟩) <| dO rfl rfl rfl (op_move rfl rfl ⟨rfl, rfl⟩) <| dO rfl rfl rfl (op_move rfl rfl ⟨rfl, rfl⟩) <| dO rfl rfl rfl (op_max2' rfl rfl rfl (max_if a b) ⟨rfl, rfl⟩) <| dO rfl rfl rfl (op_cmp rfl rfl rfl rfl ⟨rfl, rfl⟩) ?_
    rw [beq_self_eq_true]
    refine dO rfl rfl rfl (op_pick rfl rfl rfl ⟨rfl, rfl⟩) <| dO rfl rfl rfl (op_move rfl rfl ⟨rfl, rfl⟩) <| dO rfl rfl rfl (op_fieldAddr_ref rfl rfl fo28_4 ⟨rfl, rfl⟩) <| dO rfl rfl rfl (op_load' rfl rfl rfl ta26 rfl ⟨rfl, rfl⟩) <| dO rfl rfl rfl (op_indexAddr rfl Tryz.underlying26 sz28 (by decide) rfl rfl rfl (show _ = some (encV (vP2 (bothX (sortT s) (sortT t)) (max c d))) from rfl) ⟨rfl, rfl⟩) ?_
    refine dO rfl rfl rfl (op_fieldAddr_sptr rfl rfl fo28_4 ⟨rfl, rfl⟩) <| dO rfl rfl rfl (op_load_sptr rfl rfl ta26 rfl ⟨rfl, rfl⟩) <| dO rfl rfl rfl (op_indexAddr rfl Tryz.underlying26 sz28 (by decide) rfl rfl rfl (show _ = some (encV (.mk (max c d) 0 [] [] [])) from rfl) ⟨rfl, rfl⟩) ?_
    refine dO rfl rfl rfl (op_fieldAddr_sptr rfl rfl fo28_0 ⟨rfl, rfl⟩) <| dO rfl rfl rfl (op_load_sptr rfl rfl ta22 rfl ⟨rfl, rfl⟩) <| dO rfl rfl rfl (op_move rfl rfl ⟨rfl, rfl⟩) <| dO rfl rfl rfl (op_move rfl rfl ⟨rfl, rfl⟩) <| dO rfl rfl rfl (op_max2' rfl rfl rfl (max_if c d) ⟨rfl, rfl⟩) <| dO rfl rfl rfl (op_cmp rfl rfl rfl rfl ⟨rfl, rfl⟩) ?_
    rw [beq_self_eq_true]
    refine dO rfl rfl rfl (op_pick rfl rfl rfl ⟨rfl, rfl⟩) <| dO rfl rfl rfl (op_move rfl rfl ⟨rfl, rfl⟩) <| dO rfl rfl rfl (op_fieldAddr_ref rfl rfl fo28_4 ⟨rfl, rfl⟩) <| dO rfl rfl rfl (op_load' rfl rfl rfl ta26 rfl ⟨rfl, rfl⟩) <| dO rfl rfl rfl (op_indexAddr rfl Tryz.underlying26 sz28 (by decide) rfl rfl rfl (show _ = some (encV (vP2 (bothX (sortT s) (sortT t)) (max c d))) from rfl) ⟨rfl, rfl⟩) ?_
    refine dO rfl rfl rfl (op_fieldAddr_sptr rfl rfl fo28_4 ⟨rfl, rfl⟩) <| dO rfl rfl rfl (op_load_sptr rfl rfl ta26 rfl ⟨rfl, rfl⟩) <| dO rfl rfl rfl (op_indexAddr rfl Tryz.underlying26 sz28 (by decide) rfl rfl rfl (show _ = some (encV (.mk 0 0 (bothX (sortT s) (sortT t)) [] [])) from rfl) ⟨rfl, rfl⟩) ?_
    refine dO rfl rfl rfl (op_fieldAddr_sptr rfl rfl fo28_2 ⟨rfl, rfl⟩) <| dO rfl rfl rfl (op_load_sptr rfl rfl ta24 rfl ⟨rfl, rfl⟩) <| dO rfl rfl rfl (op_move rfl rfl ⟨rfl, rfl⟩) <| dOps_op rfl rfl (.cons (op_call rfl rfl rfl co18 (rSort_spec s (by omega) _)) .nil) ?_
    refine dO rfl rfl rfl (op_move rfl rfl ⟨rfl, rfl⟩) <| dOps_op rfl rfl (.cons (op_call rfl rfl rfl co18 (rSort_spec t (by omega) _)) .nil) ?_
    refine dOps_op rfl rfl (.cons (op_call rfl rfl rfl co14 (rBothT_spec (sortT s) (sortT t) (up_sort s) (up_sort t) (by omega) _)) .nil) ?_
    refine dOps_op rfl rfl (.cons (op_call rfl rfl rfl co16 (xSame_spec _ _ _)) .nil) ?_
    rw [decide_eq_true rfl]
    refine dO rfl rfl rfl (op_pick rfl rfl rfl ⟨rfl, rfl⟩) <| dO rfl rfl rfl (op_assign rfl rfl ⟨rfl, rfl⟩) <| dOps_nil <| mwp_ret ?_
    exact ret_tmp (.inr rfl) Tryz.results6 rfl (.of_eq (rfl)) (.bool _) ⟨rfl, rfl⟩
   ·
    have hof := join_at hoX hoY (join_err_b ((is_vP b _ d).trans (by simpa using hy)))
    refine qR rfl <| qL rfl rfl rfl rfl ta35 rfl <| qL rfl rfl rfl rfl ta28 rfl <| qL rfl rfl rfl rfl ta28 rfl ?_
    refine wOps_op rfl (op_call rfl rfl rfl co11 ((hof _).mono ?_))
    rintro _ _ ⟨rfl, rfl⟩
    refine qM rfl rfl rfl <| qO rfl <| op_extract rfl rfl rfl <| qO rfl <| op_extract rfl rfl rfl <| qO rfl <| op_alloc' rfl zm28 rfl rfl <| qO rfl <| op_store' rfl rfl rfl rfl sz28 rfl rfl (Nat.le_of_ble_eq_true rfl) rfl <| qA rfl rfl rfl <| qN <| mwp_seq <| mwp_seq <| qR rfl <| qL rfl rfl rfl rfl ta35 rfl <| qL rfl rfl rfl rfl ta28 rfl ?_
    refine wOps_op rfl (op_call rfl rfl rfl co19 ((rValIs_spec sP1 (vP1 a (sortT s) c) hoX _).mono ?_))
    rintro _ _ ⟨rfl, rfl⟩
    rw [show (isF 16 sP1 && isVF sP1 (vP1 a (sortT s) c)) = true by rw [f_sP, is_vP, hx]; rfl]
    refine qO rfl <| op_not rfl rfl <| qM rfl rfl rfl <| qL rfl rfl rfl rfl ta35 rfl <| qL rfl rfl rfl rfl ta28 rfl ?_
    refine wOps_op rfl (op_call rfl rfl rfl co19 ((rValIs_spec sP1 (vP1 b (sortT t) d) hoY _).mono ?_))
    rintro _ _ ⟨rfl, rfl⟩
    rw [show (isF 16 sP1 && isVF sP1 (vP1 b (sortT t) d)) = false by rw [f_sP, is_vP, show isRowF (sortT t) = false by simpa using hy]; rfl]
    refine qO rfl <| op_not rfl rfl <| qP rfl rfl rfl rfl <| qN <| mwp_cond_t rfl (rfl) <| mwp_seq <| qR rfl <| qM rfl rfl rfl <| qO rfl <| op_makeInterface rfl rfl Tryz.underlying38 (by simp) ?_
    refine wOps_op rfl (op_call rfl rfl rfl co13 ((errIs_spec 14 _).mono ?_))
    rintro _ _ ⟨rfl, rfl⟩
    refine qA rfl rfl rfl <| qN <| mwp_ret ?_
    exact ret_tmp (.inr rfl) Tryz.results6 rfl (.of_eq (rfl)) (.bool _) ⟨rfl, rfl⟩
   ·
    have hof := join_at hoX hoY (join_err_a ((is_vP a _ c).trans (by simpa using hx)))
    refine qR rfl <| qL rfl rfl rfl rfl ta35 rfl <| qL rfl rfl rfl rfl ta28 rfl <| qL rfl rfl rfl rfl ta28 rfl ?_
    refine wOps_op rfl (op_call rfl rfl rfl co11 ((hof _).mono ?_))
    rintro _ _ ⟨rfl, rfl⟩
    refine qM rfl rfl rfl <| qO rfl <| op_extract rfl rfl rfl <| qO rfl <| op_extract rfl rfl rfl <| qO rfl <| op_alloc' rfl zm28 rfl rfl <| qO rfl <| op_store' rfl rfl rfl rfl sz28 rfl rfl (Nat.le_of_ble_eq_true rfl) rfl <| qA rfl rfl rfl <| qN <| mwp_seq <| mwp_seq <| qR rfl <| qL rfl rfl rfl rfl ta35 rfl <| qL rfl rfl rfl rfl ta28 rfl ?_
    refine wOps_op rfl (op_call rfl rfl rfl co19 ((rValIs_spec sP1 (vP1 a (sortT s) c) hoX _).mono ?_))
    rintro _ _ ⟨rfl, rfl⟩
    rw [show (isF 16 sP1 && isVF sP1 (vP1 a (sortT s) c)) = false by rw [f_sP, is_vP, show isRowF (sortT s) = false by simpa using hx]; rfl]
    refine qO rfl <| op_not rfl rfl <| qM rfl rfl rfl <| qS rfl <| qS rfl <| qS rfl <| qS rfl <| qP rfl rfl rfl rfl <| qN <| mwp_cond_t rfl (rfl) <| mwp_seq <| qR rfl <| qM rfl rfl rfl <| qO rfl <| op_makeInterface rfl rfl Tryz.underlying38 (by simp) ?_
    refine wOps_op rfl (op_call rfl rfl rfl co13 ((errIs_spec 14 _).mono ?_))
    rintro _ _ ⟨rfl, rfl⟩
    refine qA rfl rfl rfl <| qN <| mwp_ret ?_
    exact ret_tmp (.inr rfl) Tryz.results6 rfl (.of_eq (rfl)) (.bool _) ⟨rfl, rfl⟩
   ·
    have hof := join_at hoX hoY (join_err_a ((is_vP a _ c).trans (by simpa using hx)))
    refine qR rfl <| qL rfl rfl rfl rfl ta35 rfl <| qL rfl rfl rfl rfl ta28 rfl <| qL rfl rfl rfl rfl ta28 rfl ?_
    refine wOps_op rfl (op_call rfl rfl rfl co11 ((hof _).mono ?_))
    rintro _ _ ⟨rfl, rfl⟩
    refine qM rfl rfl rfl <| qO rfl <| op_extract rfl rfl rfl <| qO rfl <| op_extract rfl rfl rfl <| qO rfl <| op_alloc' rfl zm28 rfl rfl <| qO rfl <| op_store' rfl rfl rfl rfl sz28 rfl rfl (Nat.le_of_ble_eq_true rfl) rfl <| qA rfl rfl rfl <| qN <| mwp_seq <| mwp_seq <| qR rfl <| qL rfl rfl rfl rfl ta35 rfl <| qL rfl rfl rfl rfl ta28 rfl ?_
    refine wOps_op rfl (op_call rfl rfl rfl co19 ((rValIs_spec sP1 (vP1 a (sortT s) c) hoX _).mono ?_))
    rintro _ _ ⟨rfl, rfl⟩
    rw [show (isF 16 sP1 && isVF sP1 (vP1 a (sortT s) c)) = false by rw [f_sP, is_vP, show isRowF (sortT s) = false by simpa using hx]; rfl]
    refine qO rfl <| op_not rfl rfl <| qM rfl rfl rfl <| qS rfl <| qS rfl <| qS rfl <| qS rfl <| qP rfl rfl rfl rfl <| qN <| mwp_cond_t rfl (rfl) <| mwp_seq <| qR rfl <| qM rfl rfl rfl <| qO rfl <| op_makeInterface rfl rfl Tryz.underlying38 (by simp) ?_
    refine wOps_op rfl (op_call rfl rfl rfl co13 ((errIs_spec 14 _).mono ?_))
    rintro _ _ ⟨rfl, rfl⟩
    refine qA rfl rfl rfl <| qN <| mwp_ret ?_
    exact ret_tmp (.inr rfl) Tryz.results6 rfl (.of_eq (rfl)) (.bool _) ⟨rfl, rfl⟩
end Go.Proofs.YtihpnfpdocnniaaGreat
end
section
set_option linter.unusedVariables false
set_option linter.unusedSimpArgs false
namespace Go.MV
open Go Go.RowKit Go.ChangeShapes Go.WideShapes Go.Deep
def g0 (W : World) : Gh := { B := W.heap.size, w0 := W, st := fun b => match W.heap[b]? with | some (.cells c _ _) => c.size | _ => 0, bk := fun _ => none, lg := fun _ _ => none }
theorem rel0 (W : World) : Rel (g0 W) [] W := by
  refine ⟨.refl _ _, Nat.le_refl _, fun b hb => ?_, fun _ _ => rfl, fun _ _ _ => rfl, fun _ => none, ⟨fun id o h => (by simp at h), fun i j b h => (by cases h), fun id b h => (by cases h)⟩⟩
  show (match W.heap[b]? with | some (.cells c _ _) => c.size | _ => 0) = 0
  rw [Array.getElem?_eq_none hb]
theorem stab0 {W : World} {ad : Addr} {k : Nat} {v : Value} (h : W.cell? (ad.add k) = some v) (h1 : v.oneCell' = true) : Stab (g0 W) W ad k v := by
  refine ⟨?_, h, h1⟩
  have e := cell_spot h
  rw [e] at h
  show _ < (match W.heap[(ad.add k).block]? with | some (.cells c _ _) => c.size | _ => 0)
  unfold World.cell? at h
  split at h
  · rename_i c t f hc
    simp only [Option.isSome_none, Bool.false_eq_true, if_false] at h
    simp only at hc
    rw [hc]
    exact (Array.getElem?_eq_some_iff.1 h).1
  · cases h
def TyFs (T : TypeId → List MV → Prop) : List Field → List MV → Prop
  | [], l => l = []
  | f :: fs, l => ∃ a b, l = a ++ b ∧ T f.type a ∧ TyFs T fs b
def ElF (P : Program) (e : TypeId) (x : MV) : Prop := match P.underlying e with | some (.struct _) => x = .agg x.cells | _ => [x] = x.cells
def TyM (P : Program) : Nat → TypeId → List MV → Prop
  | 0, _, _ => False
  | n + 1, t, l =>
    match P.underlying t with
    | some (.int k) => ∃ v, l = [.int k v] ∧ (Lit.int k v).wf = true
    | some .bool => ∃ b, l = [.bool b]
    | some .string => ∃ s, l = [.str s] ∧ s.size ≤ maxLen
    | some (.slice e) => ∃ xs, l = [.lst none (P.cellsOf e) xs] ∧ ∀ x ∈ xs, x.cells.length = P.cellsOf e ∧ TyM P n e x.cells ∧ ElF P e x
    | some (.struct fs) => TyFs (TyM P n) fs.toList l
    | _ => False
def contig (P : Program) (size : Nat) : List Field → Nat → Bool
  | [], off => Nat.beq off size
  | f :: fs, off => Nat.beq f.offset off && contig P size fs (off + P.cellsOf f.type)
def okTypes (P : Program) (ts : List TypeId) : Bool :=
  ts.all fun t => match P.underlying t with
    | some (.int _) | some .bool | some .string => true
    | some (.slice e) => natMem e ts && (match P.underlying e with | some (.struct _) => true | _ => Nat.beq (P.cellsOf e) 1)
    | some (.struct fs) => fs.toList.all (fun f => natMem f.type ts) && contig P (P.cellsOf t) fs.toList 0
    | _ => false
theorem rds_of_fields {P : Program} {W : World} {T : TypeId → List MV → Prop} {cs : List Value} {size : Nat} (hlen : cs.length = size) : ∀ (fs : List Field) (off : Nat), contig P size fs off = true →
    (∀ f ∈ fs, ∃ l, Rds (g0 W) W l ((cs.drop f.offset).take (P.cellsOf f.type)) ∧ T f.type l ∧ l.length = P.cellsOf f.type ∧ ∀ y ∈ l, y.one = true) → ∃ l, Rds (g0 W) W l (cs.drop off) ∧ TyFs T fs l ∧ ∀ y ∈ l, y.one = true
  | [], off, hc, _ => by
    have := Nat.eq_of_beq_eq_true hc
    refine ⟨[], ?_, rfl, fun y hy => by cases hy⟩
    rw [List.drop_eq_nil_of_le (by omega)]
    exact .nil _ _
  | f :: fs, off, hc, h => by
    simp only [contig, Bool.and_eq_true] at hc
    have ho := Nat.eq_of_beq_eq_true hc.1
    obtain ⟨a, h1, h2, h3, h5⟩ := h f (List.mem_cons_self ..)
    obtain ⟨b, k1, k2, k3⟩ := rds_of_fields hlen fs _ hc.2 (fun f' hf' => h f' (List.mem_cons_of_mem _ hf'))
    refine ⟨a ++ b, ?_, ⟨a, b, rfl, h2, k2⟩, fun y hy => (List.mem_append.1 hy).elim (h5 y) (k3 y)⟩
    have e : cs.drop off = (cs.drop off).take (P.cellsOf f.type) ++ cs.drop (off + P.cellsOf f.type) := by
      rw [← List.drop_drop, List.take_append_drop]
    rw [e]
    rw [ho] at h1
    exact h1.append k1
theorem tyFs_mono {T T' : TypeId → List MV → Prop} (h : ∀ t l, T t l → T' t l) : ∀ (fs : List Field) (l : List MV), TyFs T fs l → TyFs T' fs l
  | [], l, hl => hl
  | f :: fs, l, ⟨a, b, e, h1, h2⟩ => ⟨a, b, e, h _ _ h1, tyFs_mono h fs b h2⟩
theorem tyM_succ {P : Program} : ∀ (n : Nat) (t : TypeId) (l : List MV), TyM P n t l → TyM P (n + 1) t l
  | 0, t, l, h => h.elim
  | n + 1, t, l, h => by
    unfold TyM at h ⊢
    split at h
    · rename_i k hu; exact h
    · rename_i hu; exact h
    · rename_i hu; exact h
    · rename_i e hu
      obtain ⟨xs, h1, h2⟩ := h
      exact ⟨xs, h1, fun x hx => ⟨(h2 x hx).1, tyM_succ n _ _ (h2 x hx).2.1, (h2 x hx).2.2⟩⟩
    · rename_i fs hu; exact tyFs_mono (tyM_succ n) _ _ h
    · exact h.elim
theorem tyM_le {P : Program} {n m : Nat} (h : n ≤ m) {t : TypeId} {l : List MV} (ht : TyM P n t l) : TyM P m t l := by
  obtain ⟨d, rfl⟩ := Nat.le.dest h
  induction d with
  | zero => exact ht
  | succ d ih => exact tyM_succ _ _ _ (ih (by omega))
section
variable {H : Type} {enc : TypeId × Value → H} {P : Program} {W : World} {base : Nat} {spare : Nat → Bool} {held : Bool}
theorem common_bound {α : Type} {p : Nat → α → Prop} (hm : ∀ n m a, n ≤ m → p n a → p m a) : ∀ (l : List α), (∀ a ∈ l, ∃ n, p n a) → ∃ n, ∀ a ∈ l, p n a
  | [], _ => ⟨0, fun a h => by cases h⟩
  | a :: l, h => by
    obtain ⟨n, hn⟩ := h a (List.mem_cons_self ..)
    obtain ⟨m, hm'⟩ := common_bound hm l (fun b hb => h b (List.mem_cons_of_mem _ hb))
    refine ⟨max n m, fun b hb => ?_⟩
    rcases List.mem_cons.1 hb with rfl | hb
    · exact hm _ _ _ (by omega) hn
    · exact hm _ _ _ (by omega) (hm' b hb)
theorem reads_gen {ts : List TypeId} (hok : okTypes P ts = true) : ∀ (n : Nat) (x : DataW H × List MemPlace) (fuel : Nat) (t : TypeId) (cs : List Value), SizeOf.sizeOf x.1 ≤ n → t ∈ ts → DataW.trod enc P W base spare held fuel t cs = some x →
    ∃ (l : List MV) (m : Nat), Rds (g0 W) W l cs ∧ TyM P m t l ∧ ∀ y ∈ l, y.one = true := by
  intro n
  induction n using Nat.strongRecOn with
  | _ n ih =>
  intro x fuel t cs hx ht h
  have hot : (match P.underlying t with
    | some (.int _) | some .bool | some .string => true
    | some (.slice e) => natMem e ts && (match P.underlying e with | some (.struct _) => true | _ => Nat.beq (P.cellsOf e) 1)
    | some (.struct fs) => fs.toList.all (fun f => natMem f.type ts) && contig P (P.cellsOf t) fs.toList 0
    | _ => false) = true := by
    simp only [okTypes, List.all_eq_true] at hok
    exact hok t ht
  split at hot
  · rename_i k hu
    obtain ⟨v, rfl, rfl, hwf⟩ := DataW.trod_int hu h
    refine ⟨[.int k v], 1, .cons (.int _ _) (.nil _ _), ?_, by simp [MV.one]⟩
    unfold TyM
    rw [hu]
    exact ⟨v, rfl, hwf⟩
  · rename_i hu
    obtain ⟨b, rfl, rfl⟩ := DataW.trod_bool hu h
    refine ⟨[.bool b], 1, .cons (.bool _) (.nil _ _), ?_, by simp [MV.one]⟩
    unfold TyM
    rw [hu]
    exact ⟨b, rfl⟩
  · rename_i hu
    obtain ⟨s, rfl, rfl, hs⟩ := DataW.trod_string hu h
    refine ⟨[.str s], 1, .cons (.str _) (.nil _ _), ?_, by simp [MV.one]⟩
    unfold TyM
    rw [hu]
    exact ⟨s, rfl, hs⟩
  · rename_i e hu
    simp only [Bool.and_eq_true] at hot
    have he : e ∈ ts := natMem_iff.1 hot.1
    rcases open_slice hu h with ⟨rfl, rfl⟩ | ⟨a, len, cap, m, n', D, Pl, rfl, hb, hl, hm, hmm, rfl, hi⟩
    · refine ⟨[.lst none (P.cellsOf e) []], 1, .cons (Sub.nil _ _ _ _ .lst0) (.nil _ _), ?_, by simp [MV.one]⟩
      unfold TyM
      rw [hu]
      exact ⟨[], rfl, fun x hx => by cases hx⟩
    · have hlm : len ≤ m := by rw [hmm]; split <;> omega
      have hel : ∀ i, i < len → ∃ (l : List MV) (k : Nat) (us : List Value), us.length = P.cellsOf e ∧ Rds (g0 W) W l us ∧ TyM P k e l ∧ (∀ y ∈ l, y.one = true) ∧ ∀ j, j < P.cellsOf e → W.cell? ((a.add (i * P.cellsOf e)).add j) = us[j]? := by
        intro i hil
        obtain ⟨cs', hc, ht'⟩ := hi i (by omega)
        obtain ⟨_, hlen, hcell⟩ := World.cells?_some hc
        have hsz : SizeOf.sizeOf (D i) < n := by
          have hmem : D i ∈ (List.range len).map D := List.mem_map.2 ⟨i, List.mem_range.2 hil, rfl⟩
          have := List.sizeOf_lt_of_mem hmem
          simp only [DataW.slice.sizeOf_spec] at hx
          omega
        obtain ⟨l, k, h1, h2, h3⟩ := ih _ hsz (D i, Pl i) n' e cs' (Nat.le_refl _) he ht'
        exact ⟨l, k, cs', hlen, h1, h2, h3, hcell⟩
      have hall : ∀ (N : Nat), N ≤ len → ∃ (xs : List MV) (us : List Value) (k : Nat), xs.length = N ∧ us.length = N * P.cellsOf e ∧ Rds (g0 W) W (flat xs) us ∧ (∀ y ∈ flat xs, y.one = true) ∧ (∀ x ∈ xs, x.cells.length = P.cellsOf e ∧ TyM P k e x.cells ∧ ElF P e x) ∧
          ∀ j, j < N * P.cellsOf e → W.cell? (a.add j) = us[j]? := by
        intro N
        induction N with
        | zero => exact fun _ => ⟨[], [], 0, rfl, by simp, .nil _ _, by simp [flat], by simp, by simp⟩
        | succ N ihN =>
          intro hN
          obtain ⟨xs, us, k, q1, q2, q3, q4, q5, q6⟩ := ihN (by omega)
          obtain ⟨l, k', us', r1, r2, r3, r4, r5⟩ := hel N (by omega)
          have hll : l.length = P.cellsOf e := by rw [← r2.1, r1]
          obtain ⟨y, hy1, hy2⟩ : ∃ y : MV, y.cells = l ∧ ElF P e y := by
            cases hue : P.underlying e with
            | none => 
              have hk1 : P.cellsOf e = 1 := by have := hot.2; rw [hue] at this; exact Nat.eq_of_beq_eq_true this
              match l, hll.trans hk1 with
              | [y], _ =>
                have := r4 y (List.mem_cons_self ..)
                simp only [ElF, hue]
                refine ⟨y, ?_, ?_⟩ <;> (cases y <;> first | rfl | (cases this; done))
            | some d =>
              cases d with
              | struct fs => exact ⟨.agg l, rfl, by simp only [ElF, hue]; rfl⟩
              | _ =>
                have hk1 : P.cellsOf e = 1 := by have := hot.2; rw [hue] at this; exact Nat.eq_of_beq_eq_true this
                match l, hll.trans hk1 with
                | [y], _ =>
                  have := r4 y (List.mem_cons_self ..)
                  simp only [ElF, hue]
                  refine ⟨y, ?_, ?_⟩ <;> (cases y <;> first | rfl | (cases this; done))
          refine ⟨xs ++ [y], us ++ us', max k k', by simp [q1], by rw [List.length_append, q2, r1, Nat.add_mul]; omega, ?_, ?_, ?_, ?_⟩
          · rw [flat_append]
            refine q3.append ?_
            simp only [flat, List.flatMap_cons, List.flatMap_nil, List.append_nil, hy1]
            exact r2
          · intro z hz
            rw [flat_append, List.mem_append] at hz
            rcases hz with hz | hz
            · exact q4 z hz
            · simp only [flat, List.flatMap_cons, List.flatMap_nil, List.append_nil, hy1] at hz
              exact r4 z hz
          · intro x hx
            rcases List.mem_append.1 hx with hx | hx
            · exact ⟨(q5 x hx).1, tyM_le (by omega) (q5 x hx).2.1, (q5 x hx).2.2⟩
            · simp at hx
              subst hx
              rw [hy1]
              exact ⟨hll, tyM_le (by omega) r3, hy2⟩
          · intro j hj
            rw [Nat.add_mul, Nat.one_mul] at hj
            by_cases hjl : j < N * P.cellsOf e
            · rw [List.getElem?_append_left (by omega)]
              exact q6 j hjl
            · rw [List.getElem?_append_right (by omega), q2, ← r5 (j - N * P.cellsOf e) (by omega), Go.MV.add_add]
              congr 2
              omega
      obtain ⟨xs, us, k, q1, q2, q3, q4, q5, q6⟩ := hall len (Nat.le_refl _)
      refine ⟨[.lst none (P.cellsOf e) xs], k + 1, .cons (.lst' q1 hl hm (fun x hx => (q5 x hx).1) q3 (fun j u hu => ⟨a, rfl, stab0 ?_ ?_⟩) (fun t ht => by cases ht)) (.nil _ _), ?_, by simp [MV.one]⟩
      · have hj : j < us.length := (List.getElem?_eq_some_iff.1 hu).1
        rw [q6 j (by omega)]
        exact hu
      · have hj : j < us.length := (List.getElem?_eq_some_iff.1 hu).1
        have hjf : j < (flat xs).length := by rw [← q3.1]; exact hj
        exact one_cell (q3.2 j _ u (List.getElem?_eq_getElem hjf) hu) (q4 _ (List.getElem_mem hjf))
      · unfold TyM
        rw [hu]
        exact ⟨xs, rfl, q5⟩
  · rename_i fs hu
    simp only [Bool.and_eq_true, List.all_eq_true] at hot
    obtain ⟨xs, n', rfl, rfl, hlen, hxl, hf⟩ := DataW.trod_struct hu h
    have hfld : ∀ f ∈ fs.toList, ∃ (k : Nat) (l : List MV), Rds (g0 W) W l ((cs.drop f.offset).take (P.cellsOf f.type)) ∧ TyM P k f.type l ∧ ∀ y ∈ l, y.one = true := by
      intro f hfm
      obtain ⟨i, hi⟩ := List.getElem?_of_mem hfm
      have hi' : fs[i]? = some f := by simpa using hi
      have hilt : i < xs.length := by rw [hxl]; exact (Array.getElem?_eq_some_iff.1 hi').1
      have htr := hf i f hi'
      rw [List.getElem?_eq_getElem hilt] at htr
      have hsz : SizeOf.sizeOf xs[i].1 < n := by
        have hmem : xs[i].1 ∈ xs.map (·.1) := List.mem_map.2 ⟨xs[i], List.getElem_mem hilt, rfl⟩
        have := List.sizeOf_lt_of_mem hmem
        simp only [DataW.agg.sizeOf_spec] at hx
        omega
      obtain ⟨l, k, h1, h2, h3⟩ := ih _ hsz xs[i] n' f.type _ (Nat.le_refl _) (natMem_iff.1 (hot.1 f hfm)) htr
      exact ⟨k, l, h1, h2, h3⟩
    obtain ⟨K, hK⟩ := common_bound (p := fun k (f : Field) => ∃ l : List MV, Rds (g0 W) W l ((cs.drop f.offset).take (P.cellsOf f.type)) ∧ TyM P k f.type l ∧ ∀ y ∈ l, y.one = true) (fun a b f hab ⟨l, h1, h2, h3⟩ => ⟨l, h1, tyM_le hab h2, h3⟩) fs.toList hfld
    have hcont := hot.2
    have hlens : ∀ (gs : List Field) (off : Nat), contig P (P.cellsOf t) gs off = true → off ≤ P.cellsOf t ∧ ∀ f ∈ gs, f.offset + P.cellsOf f.type ≤ P.cellsOf t := by
      intro gs
      induction gs with
      | nil => exact fun off hc => ⟨Nat.le_of_eq (Nat.eq_of_beq_eq_true hc), fun f hf => by cases hf⟩
      | cons f gs ihg =>
        intro off hc
        simp only [contig, Bool.and_eq_true] at hc
        have ho := Nat.eq_of_beq_eq_true hc.1
        obtain ⟨h1, h2⟩ := ihg _ hc.2
        refine ⟨by omega, fun f' hf' => ?_⟩
        rcases List.mem_cons.1 hf' with rfl | hf'
        · omega
        · exact h2 f' hf'
    obtain ⟨l, h1, h2, h3⟩ := rds_of_fields (P := P) (W := W) (T := TyM P K) hlen fs.toList 0 hcont (fun f hfm => by
      obtain ⟨l, h1, h2, h3⟩ := hK f hfm
      refine ⟨l, h1, h2, ?_, h3⟩
      have := (hlens _ _ hcont).2 f hfm
      rw [← h1.1, List.length_take, List.length_drop, hlen]
      omega)
    refine ⟨l, K + 1, by simpa using h1, ?_, h3⟩
    unfold TyM
    rw [hu]
    exact h2
  · cases hot
end
section
variable {H : Type} {enc : TypeId × Value → H} {P : Program} {W : World} {base b0 : Nat} {spare : Nat → Bool} {held : Bool} {r : Reach}
theorem arg_one {ts : List TypeId} (hok : okTypes P ts = true) {t : TypeId} (ht : t ∈ ts) {v : Value} {d : DataW H} {p : List MemPlace} (hv : v.cells = #[v]) (h : DataW.Trod enc P W base spare held t v d p) :
    ∃ (l : List MV) (m : Nat), Rds (g0 W) W l [v] ∧ TyM P m t l := by
  obtain ⟨fuel, hf⟩ := h
  rw [hv] at hf
  obtain ⟨l, m, h1, h2, _⟩ := reads_gen hok _ _ _ _ _ (Nat.le_refl _) ht hf
  exact ⟨l, m, h1, h2⟩
end
theorem law_calls {P : Program} {f : FuncId} {xs : List MV} {W : World} {vs : List Value} (h : MCalls P f xs [] fun v σ' => v = .bool true ∧ σ' = []) (hr : Rds (g0 W) W xs vs) : Calls P f vs.toArray W fun e w' => e = .returned (.bool true) ∧ Below W.heap.size W w' := by
  refine (callsIn_wide.1 (h (g0 W) W vs (rel0 W) hr)).mono ?_
  rintro e w' ⟨v, rfl, x, σ', g', ⟨rfl, rfl⟩, hrel, hrd, hle⟩
  rw [hrd.inv_bool]
  have := hrel.below
  rw [hle.B, hle.w0] at this
  exact ⟨rfl, this⟩
end Go.MV
end
section
set_option linter.unusedVariables false
set_option linter.unusedSimpArgs false
namespace Go.MV
open Go Go.RowKit Go.WideShapes Go.ChangeShapes
section
variable {H : Type} {enc : TypeId × Value → H} {P : Program} {W : World} {base b0 : Nat} {spare : Nat → Bool} {held : Bool} {r : Reach} {ts : List TypeId} {t : TypeId} {v : Value} {d : DataW H} {p : List MemPlace}
theorem tyM_intK {k : IntKind} (hu : P.underlying t = some (.int k)) {n : Nat} {l : List MV} (h : TyM P n t l) : ∃ v, l = [.int k v] ∧ (Lit.int k v).wf = true := by
  cases n with
  | zero => exact h.elim
  | succ n => unfold TyM at h; rw [hu] at h; exact h
theorem tyM_str (hu : P.underlying t = some .string) {n : Nat} {l : List MV} (h : TyM P n t l) : ∃ s : Bs, l = [.str (bs s)] ∧ s.length ≤ maxLen := by
  cases n with
  | zero => exact h.elim
  | succ n =>
    unfold TyM at h; rw [hu] at h
    obtain ⟨s, rfl, hs⟩ := h
    exact ⟨strL s, by rw [bs_strL], by unfold strL; rw [Array.length_toList]; exact hs⟩
theorem tyM_slice {e : TypeId} (hu : P.underlying t = some (.slice e)) {n : Nat} {l : List MV} (h : TyM P n t l) : ∃ xs m, m + 1 = n ∧ l = [.lst none (P.cellsOf e) xs] ∧ ∀ x ∈ xs, x.cells.length = P.cellsOf e ∧ TyM P m e x.cells ∧ ElF P e x := by
  cases n with
  | zero => exact h.elim
  | succ n =>
    unfold TyM at h; rw [hu] at h
    obtain ⟨xs, h1, h2⟩ := h
    exact ⟨xs, n, rfl, h1, h2⟩
theorem all_enc {α : Type} {enc : α → MV} {q : α → Prop} : ∀ {xs : List MV}, (∀ x ∈ xs, ∃ a, x = enc a ∧ q a) → ∃ l : List α, xs = l.map enc ∧ ∀ a ∈ l, q a
  | [], _ => ⟨[], rfl, fun a h => by cases h⟩
  | x :: xs, h => by
    obtain ⟨l, rfl, hl⟩ := all_enc (fun y hy => h y (List.mem_cons_of_mem _ hy))
    obtain ⟨a, rfl, ha⟩ := h x (List.mem_cons_self ..)
    refine ⟨a :: l, rfl, fun b hb => ?_⟩
    rcases List.mem_cons.1 hb with rfl | hb
    · exact ha
    · exact hl b hb
theorem rd_of_rds {g : Gh} {w : World} {m : MV} {v : Value} (h : Rds g w [m] [v]) : Rd g w m v := h.2 0 _ _ rfl rfl
theorem arg_int {k : IntKind} (hok : okTypes P ts = true) (ht : t ∈ ts) (hu : P.underlying t = some (.int k)) (hv : Value.okWide P W r b0 t v) (h : DataW.Trod enc P W base spare held t v d p) : ∃ n, Rd (g0 W) W (.int k n) v ∧ (Lit.int k n).wf = true := by
  obtain ⟨n, rfl⟩ := okWide_int hu hv
  obtain ⟨l, m, h1, h2⟩ := arg_one hok ht rfl h
  obtain ⟨n', rfl, hw⟩ := tyM_intK hu h2
  exact ⟨n', rd_of_rds h1, hw⟩
theorem arg_slice {e : TypeId} {α : Type} {en : α → MV} {q : α → Prop} (hok : okTypes P ts = true) (ht : t ∈ ts) (hu : P.underlying t = some (.slice e)) (hel : ∀ m x, x.cells.length = P.cellsOf e → TyM P m e x.cells → ElF P e x → ∃ a, x = en a ∧ q a)
    (hv : Value.okWide P W r b0 t v) (h : DataW.Trod enc P W base spare held t v d p) : ∃ l : List α, Rd (g0 W) W (.lst none (P.cellsOf e) (l.map en)) v ∧ (∀ a ∈ l, q a) ∧ l.length ≤ maxLen := by
  obtain ⟨a, n, c, rfl⟩ := okWide_slice hu hv
  obtain ⟨l, m, h1, h2⟩ := arg_one hok ht rfl h
  obtain ⟨xs, m, _, rfl, hx⟩ := tyM_slice hu h2
  obtain ⟨l, rfl, hl⟩ := all_enc (fun x hx' => hel m x (hx x hx').1 (hx x hx').2.1 (hx x hx').2.2)
  refine ⟨l, rd_of_rds h1, hl, ?_⟩
  obtain ⟨_, _, _, _, h3, h4, _⟩ := (rd_of_rds h1).inv_lst
  have := Nat.le_trans h3 h4
  rwa [List.length_map] at this
theorem el_str (hu : P.underlying t = some .string) (m : Nat) (x : MV) (h : TyM P m t x.cells) (he : ElF P t x) : ∃ a : Bs, x = .str (bs a) ∧ a.length ≤ maxLen := by
  obtain ⟨n, hn', hw⟩ := tyM_str hu h
  simp only [ElF, hu] at he
  rw [hn'] at he
  injection he with he
  exact ⟨n, he, hw⟩
theorem wf_u64 {n : Int} (h : (Lit.int .u64 n).wf = true) : ∃ m : Nat, n = (m : Int) ∧ m < 18446744073709551616 := by
  simp [Lit.wf, IntKind.min, IntKind.max, IntKind.signed, IntKind.bits] at h
  exact ⟨n.toNat, by omega, by omega⟩
end
end Go.MV
end
section
set_option linter.unusedVariables false
set_option linter.unusedSimpArgs false
set_option maxRecDepth 100000
namespace Go.Proofs.YtihpnfpdocnniaaGreat
open Go Go.MV
theorem cells_str : Tryz.prog.cellsOf 9 = 1 := by kernel_rfl
def TxtOk (s : Bs) : Prop := s.length ≤ maxLen
theorem el_txt (m : Nat) (x : MV) (_ : x.cells.length = Tryz.prog.cellsOf 9) (h : TyM Tryz.prog m 9 x.cells) (he : ElF Tryz.prog 9 x) : ∃ a : Bs, x = .str (bs a) ∧ TxtOk a := by
  obtain ⟨a, h1, h2⟩ := el_str Tryz.underlying9 m x h he
  exact ⟨a, h1, h2⟩
theorem arg_texts {ts : List TypeId} (hok : okTypes Tryz.prog ts = true) (ht : 24 ∈ ts) {H : Type} {enc : TypeId × Value → H} {W : World} {base b0 : Nat} {spare : Nat → Bool} {held : Bool} {r : Reach} {v : Value} {d : DataW H} {p : List MemPlace} (hv : Value.okWide Tryz.prog W r b0 24 v) (h : DataW.Trod enc Tryz.prog W base spare held 24 v d p) :
    ∃ c : List Bs, Rd (g0 W) W (.lst none 1 (c.map fun s => .str (bs s))) v ∧ (∀ s ∈ c, TxtOk s) ∧ c.length ≤ maxLen := by
  obtain ⟨c, h1, h2, h3⟩ := arg_slice (en := fun s : Bs => .str (bs s)) hok ht Tryz.underlying24 (q := TxtOk) el_txt hv h
  rw [cells_str] at h1
  exact ⟨c, h1, h2, h3⟩
end Go.Proofs.YtihpnfpdocnniaaGreat
end
