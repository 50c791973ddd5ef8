/-
  Texts on which the proof of JoinSiblings leans: part 6.
-/
import Derived.Test.YtihpnfpdocnniaaGreatJoinSiblingsE
import Derived.Deep.Slices
import Derived.ChangeSame
import Derived.ProofKit
import Derived.OpenShut
import Derived.ChangeOld
import Derived.SizedLaws
import Derived.Carry
section
set_option linter.unusedVariables false
set_option linter.unusedSimpArgs false
set_option maxRecDepth 20000
set_option maxHeartbeats 400000
namespace Go.Proofs.YtihpnfpdocnniaaGreat
open Go Go.MV
theorem shr_nat {k : IntKind} {m i : Nat} (hi : i ≤ k.bits) : Int.fdiv (m : Int) (2 ^ min ((i : Int).toNat) k.bits) = ((m / 2 ^ i : Nat) : Int) := by
 rw [show min ((i : Int).toNat) k.bits = i by rw [Int.toNat_natCast]; omega, show (2 : Int) ^ i = ((2 ^ i : Nat) : Int) by simp, Int.fdiv_eq_ediv_of_nonneg _ (Int.natCast_nonneg _)]
 rfl
theorem and1_u8 : ∀ x, x < 256 → bitsI .and .u8 (x : Nat) 1 = some ((x % 2 : Nat) : Int) := by decide +kernel
theorem bit_eq (x : Nat) : intCmp .eql ((x % 2 : Nat) : Int) 1 = some (decide (x % 2 = 1)) := by
 simp only [intCmp, Option.some.injEq]
 by_cases h : x % 2 = 1
 ·simp [h]
 ·have h0 : x % 2 = 0 := by omega
  simp [h0]
theorem div_lt {x i : Nat} (h : x < 256) : x / 2 ^ i < 256 := Nat.lt_of_le_of_lt (Nat.div_le_self _ _) h
def tk1 (i : Nat) : List Tk := [((i : Int), 1)]
def sElt (i : Nat) : Val := .mk 0 0 [[UInt8.ofNat (97 + i)]] [] []
def sibV (i : Nat) : Val := .mk 0 0 [] ((List.range i).map tk1) ((List.range i).map sElt)
def sX (i : Nat) : Val := .mk 0 0 [] [tk1 i] [sElt i]
def seenB (seen i : Nat) : Bool := decide (seen / 2 ^ i % 2 = 1)
def seenL (seen k : Nat) : List Nat := (List.range k).filter (seenB seen)
def leftL (seen k : Nat) : List Nat := (List.range k).filter fun i => !seenB seen i
def seenC (seen k : Nat) : List Tk := (seenL seen k).map fun i : Nat => ((i : Int), (1 : Int))
def sZ : Val := .mk 0 0 [[122]] [] []
def sY (seen k : Nat) : Val := .mk 0 0 [] [seenC seen k ++ [(50, 1)]] [sZ]
theorem seen_yes {seen i : Nat} (h : seenB seen i = true) : seenC seen (i + 1) = seenC seen i ++ [((i : Int), 1)] ∧ leftL seen (i + 1) = leftL seen i := by
 unfold seenC seenL leftL
 rw [List.range_succ, List.filter_append, List.filter_append]
 simp [h]
theorem seen_no {seen i : Nat} (h : seenB seen i = false) : seenC seen (i + 1) = seenC seen i ∧ leftL seen (i + 1) = leftL seen i ++ [i] := by
 unfold seenC seenL leftL
 rw [List.range_succ, List.filter_append, List.filter_append]
 simp [h]
theorem seenC_len (seen k : Nat) : (seenC seen k).length ≤ k := by
 unfold seenC seenL
 rw [List.length_map]
 exact Nat.le_trans (List.length_filter_le _ _) (by simp)
theorem leftL_len (seen k : Nat) : (leftL seen k).length ≤ k := Nat.le_trans (List.length_filter_le _ _) (by simp)
def joinN : Nat → List Tk → List Tk → List Tk
 | 0, a, _ => a
 | _ + 1, [], b => b
 | _ + 1, x :: a, [] => x :: a
 | n + 1, x :: a, y :: b => if x.1 < y.1 then x :: joinN n a (y :: b) else if y.1 < x.1 then y :: joinN n (x :: a) b else (x.1, if y.2 > x.2 then y.2 else x.2) :: joinN n a b
theorem joinN_eq : ∀ (n : Nat) (a b : List Tk), a.length + b.length < n → joinN n a b = joinF a b
 | 0, a, b, h => by omega
 | n + 1, [], b, _ => by rw [joinN, nil_join]
 | n + 1, x :: a, [], _ => by rw [joinN, join_nil]
 | n + 1, x :: a, y :: b, h => by
  simp only [List.length_cons] at h
  rw [joinN, join_cons, joinN_eq n a (y :: b) (by simp only [List.length_cons]; omega), joinN_eq n (x :: a) b (by simp only [List.length_cons]; omega), joinN_eq n a b (by omega)]
  rfl
def cmpN (a b : List Tk) : Int := if a = b then 0 else if joinN (a.length + b.length + 1) a b = b then -1 else if joinN (a.length + b.length + 1) a b = a then 1 else 2
theorem cmpN_eq (a b : List Tk) : cmpF a b = cmpN a b := by unfold cmpN cmpF; rw [joinN_eq _ a b (by omega)]
def mrgN {κ : Type} (cmp : κ → κ → Int) : Nat → List (REnt κ) → List (REnt κ) → List (Ent κ)
 | 0, _, _ => []
 | _ + 1, [], [] => []
 | n + 1, x :: a, [] => (x.1, x.2, none) :: mrgN cmp n a []
 | n + 1, [], y :: b => (y.1, y.2, none) :: mrgN cmp n [] b
 | n + 1, x :: a, y :: b => if cmp x.1 y.1 < 0 then (x.1, x.2, none) :: mrgN cmp n a (y :: b) else if cmp y.1 x.1 < 0 then (y.1, y.2, none) :: mrgN cmp n (x :: a) b else (x.1, x.2, some y.2) :: mrgN cmp n a b
theorem mrgN_eq {κ : Type} (cmp : κ → κ → Int) : ∀ (n : Nat) (a b : List (REnt κ)), a.length + b.length < n → mrgN cmp n a b = mergeE cmp a b
 | 0, a, b, h => by omega
 | n + 1, [], [], _ => by rw [mrgN, mergeE]
 | n + 1, x :: a, [], h => by rw [mrgN, mergeE, mrgN_eq cmp n a [] (by simp at h ⊢; omega)]
 | n + 1, [], y :: b, h => by rw [mrgN, mergeE, mrgN_eq cmp n [] b (by simp at h ⊢; omega)]
 | n + 1, x :: a, y :: b, h => by
  simp only [List.length_cons] at h
  rw [mrgN, mergeE, mrgN_eq cmp n a (y :: b) (by simp only [List.length_cons]; omega), mrgN_eq cmp n (x :: a) b (by simp only [List.length_cons]; omega), mrgN_eq cmp n a b (by omega)]
def pairsN : List (List Tk) → Bool
 | [] => true
 | a :: l => (l.all fun b => decide (byTicksF a b < 0) && decide (cmpN a b = 2)) && pairsN l
theorem pairsN_eq : ∀ l : List (List Tk), pairsF l = pairsN l
 | [] => rfl
 | a :: l => by
  rw [pairsF, pairsN, pairsN_eq l]
  congr 2
  funext b
  rw [pairF, cmpN_eq]
def isSibN (v : Val) : Bool := bareF 8 v && decide (v.vv.length ≤ 40) && decide (v.cv.length ≤ 40) && (decide (v.cv.length = v.vv.length) && (v.cv.all isClockF && pairsN v.cv) && v.vv.all fun x => bareF 3 x && decide (x.vv.length ≤ 40) && decide (x.cv.length ≤ 40) && isRowF x.sv)
def sS : Sch := .mk 8 [.mk 3 []]
theorem isSibN_eq (v : Val) : isVF sS v = isSibN v := by
 obtain ⟨n, m, s, c, w⟩ := v
 unfold sS isSibN
 rw [isVF_mk 8]
 show isB 8 [.mk 3 []] _ _ = _
 simp only [isVL, isB, List.headD_cons, show ¬ ((8 : Int) = 1) by decide, show ¬ ((8 : Int) = 2) by decide, show ¬ ((8 : Int) = 3) by decide, show ¬ ((8 : Int) = 4) by decide, show ¬ ((8 : Int) = 5) by decide, show ¬ ((8 : Int) = 6) by decide, show ¬ ((8 : Int) = 7) by decide, if_false, isCauseF, pairsN_eq]
 congr 2
def topN (v w : Val) : List (Ent (List Tk)) := mrgN byTicksF ((entC v).length + (entC w).length + 1) (entC v) (entC w)
def outN (v w : Val) : List (Ent (List Tk)) := (topN v w).filter fun e => !(topN v w).any fun o => decide (cmpN e.1 o.1 = -1)
theorem outN_eq (v w : Val) : ((mergedC v w).filter fun e => !seenE (mergedC v w) e) = outN v w := by
 unfold outN
 rw [show topN v w = mergedC v w from mrgN_eq _ _ _ _ (by omega)]
 refine congrArg (fun f => List.filter f (mergedC v w)) (funext fun e => ?_)
 unfold seenE
 simp only [cmpN_eq]
def plainN (l : List (Ent (List Tk))) : Bool := l.all fun e => e.2.2.isNone
theorem goE_plain (f : Val → Val → Option Val) : ∀ l : List (Ent (List Tk)), plainN l = true → goE f l = some (l.map fun e => (e.1, e.2.1))
 | [], _ => rfl
 | e :: l, h => by
  unfold plainN at h
  rw [List.all_cons, Bool.and_eq_true] at h
  have h1 : e.2.2 = none := by simpa using h.1
  rw [goE, goE_plain f l h.2, ofE, h1]
  rfl
theorem sib_both {v w : Val} (h : plainN (outN v w) = true) (hl : largeF (.mk 0 0 [] ((outN v w).map (·.1)) ((outN v w).map (·.2.1))) = false) : bothF sS v w = some (.mk 0 0 [] ((outN v w).map (·.1)) ((outN v w).map (·.2.1))) := by
 unfold sS
 rw [bothF_mk, show bothB 8 (bothL [.mk 3 []]) v w = some (.mk 0 0 [] ((outN v w).map (·.1)) ((outN v w).map (·.2.1))) from ?_]
 ·exact cap_f hl
 ·show causesF (bothF (.mk 3 [])) v w = _
  rw [causesF, outN_eq, goE_plain _ _ h]
  simp [List.map_map, Function.comp_def]
def flatE : Val → Val → Bool
 | .mk n m s c [], .mk n2 m2 s2 c2 [] => decide (n = n2) && decide (m = m2) && decide (s = s2) && decide (c = c2)
 | _, _ => false
theorem flatE_eq : ∀ {a b : Val}, flatE a b = true → a = b
 | .mk n m s c [], .mk n2 m2 s2 c2 [], h => by simp [flatE] at h; simp [h]
 | .mk n m s c (x :: l), .mk n2 m2 s2 c2 [], h => by simp [flatE] at h
 | .mk n m s c [], .mk n2 m2 s2 c2 (x :: l), h => by simp [flatE] at h
 | .mk n m s c (x :: l), .mk n2 m2 s2 c2 (y :: l2), h => by simp [flatE] at h
def flatL : List Val → List Val → Bool
 | [], [] => true
 | x :: a, y :: b => flatE x y && flatL a b
 | _, _ => false
theorem flatL_eq : ∀ {a b : List Val}, flatL a b = true → a = b
 | [], [], _ => rfl
 | x :: a, y :: b, h => by rw [flatL, Bool.and_eq_true] at h; rw [flatE_eq h.1, flatL_eq h.2]
 | [], _ :: _, h => by cases h
 | _ :: _, [], h => by cases h
def stepN (i : Nat) : Bool := plainN (outN (sibV i) (sX i)) && !largeF (.mk 0 0 [] ((outN (sibV i) (sX i)).map (·.1)) ((outN (sibV i) (sX i)).map (·.2.1))) && decide ((outN (sibV i) (sX i)).map (·.1) = (sibV (i + 1)).cv) && flatL ((outN (sibV i) (sX i)).map (·.2.1)) (sibV (i + 1)).vv && isSibN (sibV i) && isSibN (sX i)
theorem okV_sib (i : Nat) : okV (sibV i) := by
 unfold sibV
 refine okV_mk.2 ⟨by omega, by omega, fun x hx t ht => ?_, fun x hx => ?_⟩
 ·obtain ⟨j, _, rfl⟩ := List.mem_map.1 hx
  simp [tk1] at ht
  subst ht
  simp [okTk]
 ·obtain ⟨j, _, rfl⟩ := List.mem_map.1 hx
  simp [sElt, okV, okVs]
theorem okV_sX (i : Nat) : okV (sX i) := by simp [sX, sElt, okV, okVs, tk1, okTk]
theorem okV_sY (seen k : Nat) : okV (sY seen k) := by
 unfold sY
 refine okV_mk.2 ⟨by omega, by omega, fun x hx t ht => ?_, fun x hx => ?_⟩
 ·rw [List.mem_singleton] at hx
  subst hx
  rw [List.mem_append] at ht
  rcases ht with ht | ht
  ·obtain ⟨j, _, rfl⟩ := List.mem_map.1 ht
   simp [okTk]
  ·rw [List.mem_singleton] at ht
   subst ht
   simp [okTk]
 ·rw [List.mem_singleton] at hx
  subst hx
  simp [sZ, okV, okVs]
theorem sib_ne (i : Nat) : intCmp .neq (((sibV (i + 1)).cv.map encC).length : Int) ((i + 1 : Nat) : Int) = some false := by simp [sibV, Val.cv, intCmp]
theorem last_eq {wc : List (List Tk)} {n : Nat} (h : wc.length = n + 1) : intCmp .eql ((wc.map encC).length : Int) ((n + 1 : Nat) : Int) = some true := by simp [intCmp, h]
theorem step_all : ∀ i, i < 6 → stepN i = true := by decide +kernel
def lastN (k seen : Nat) : Bool := plainN (outN (sibV k) (sY seen k)) && !largeF (.mk 0 0 [] ((outN (sibV k) (sY seen k)).map (·.1)) ((outN (sibV k) (sY seen k)).map (·.2.1))) && decide ((outN (sibV k) (sY seen k)).length = (leftL seen k).length + 1) && isSibN (.mk 0 0 [] ((outN (sibV k) (sY seen k)).map (·.1)) ((outN (sibV k) (sY seen k)).map (·.2.1))) && isSibN (sibV k) && isSibN (sY seen k)
theorem last_all : ∀ k, k < 7 → ∀ seen, seen < 64 → lastN k seen = true := by decide +kernel
theorem seenB_mod {seen i : Nat} (hi : i < 6) : seenB (seen % 64) i = seenB seen i := by
 unfold seenB
 have : i = 0 ∨ i = 1 ∨ i = 2 ∨ i = 3 ∨ i = 4 ∨ i = 5 := by omega
 rcases this with rfl | rfl | rfl | rfl | rfl | rfl <;> congr 1 <;> simp <;> omega
theorem seenL_mod {seen k : Nat} (hk : k < 7) : seenC (seen % 64) k = seenC seen k ∧ leftL (seen % 64) k = leftL seen k := by
 have h : ∀ i ∈ List.range k, seenB (seen % 64) i = seenB seen i := fun i hi => seenB_mod (by have := List.mem_range.1 hi; omega)
 unfold seenC seenL leftL
 refine ⟨congrArg _ (List.filter_congr h), List.filter_congr fun i hi => by rw [h i hi]⟩
theorem sib_step {i : Nat} (h : i < 6) : joinVF sS (sibV i) (sX i) = .ok (sibV (i + 1)) := by
 have := step_all i h
 unfold stepN at this
 simp only [Bool.and_eq_true, Bool.not_eq_true', decide_eq_true_eq] at this
 obtain ⟨⟨⟨⟨⟨h1, h2⟩, h3⟩, h4⟩, h5⟩, h6⟩ := this
 refine join_ok_of (by decide) (by rw [isSibN_eq]; exact h5) (by rw [isSibN_eq]; exact h6) ?_
 rw [sib_both h1 h2, h3, flatL_eq h4]
 rfl
theorem sib_last (k seen : Nat) (h : k < 7) : ∃ c w, joinVF sS (sibV k) (sY seen k) = .ok (.mk 0 0 [] c w) ∧ c.length = (leftL seen k).length + 1 ∧ isVF sS (.mk 0 0 [] c w) = true := by
 have := last_all k h (seen % 64) (by omega)
 unfold lastN sY at this
 rw [(seenL_mod h).1, (seenL_mod h).2] at this
 simp only [Bool.and_eq_true, Bool.not_eq_true', decide_eq_true_eq] at this
 obtain ⟨⟨⟨⟨⟨h1, h2⟩, h3⟩, h4⟩, h5⟩, h6⟩ := this
 refine ⟨_, _, join_ok_of (by decide) (by rw [isSibN_eq]; exact h5) (by rw [isSibN_eq]; exact h6) (sib_both h1 h2), ?_, by rw [isSibN_eq]; exact h4⟩
 rw [List.length_map]
 exact h3
theorem JoinSiblings_spec (n seen : Nat) (hn : n < 256) (hseen : seen < 256) (S : MS) : MCalls Tryz.prog 8 [.int .u8 (n : Int), .int .u8 (seen : Int)] S fun v σ' => v = .bool true ∧ σ' = S := by
 refine mcalls_body Tryz.func8 rfl Tryz.ntmps8 (Nat.le_of_ble_eq_true rfl) ?_
 refine mwp_seq <| qR rfl <| qA rfl rfl rfl <| qN <| mwp_seq <| mwp_seq <| qR rfl ?_
 refine wOps_op rfl (op_call rfl rfl rfl co10 ((knownJ_spec _).mono ?_))
 rintro _ _ ⟨rfl, rfl⟩
 refine qO rfl <| op_not rfl rfl <| qN <| mwp_cond_f rfl (rfl) <| mwp_skip <| mwp_seq <| qR rfl ?_
 refine wOps_op rfl (op_call rfl rfl rfl co12 (((lawOf_spec 3 [] _).sub (.cons (.refl _) (.cons (.nil 2) .nil))).mono ?_))
 rintro _ _ ⟨rfl, rfl⟩
 refine qO rfl <| op_buildSlice rfl Tryz.underlying33 el35 rfl rfl (by decide) (by decide) rfl rfl ?_
 refine wOps_op rfl (op_call rfl rfl rfl co12 ((lawOf_spec 8 [.mk 3 []] _).mono ?_))
 rintro _ _ ⟨rfl, rfl⟩
 refine qO rfl <| op_alloc' rfl zm35 rfl rfl <| qO rfl <| op_store' rfl rfl rfl rfl sz35 rfl rfl (Nat.le_of_ble_eq_true rfl) rfl <| qN <| mwp_seq <| qR rfl <| qM rfl rfl rfl <| qO rfl <| op_rem rfl rfl rfl (by decide) (rem_nat n 6) ?_
 refine qO rfl <| op_convInt rfl Tryz.underlying5 Tryz.underlying3 rfl (i64_nat (show n % 6 < _ by omega)) ?_
 refine qO rfl <| op_arith rfl rfl rfl (wadd (a := n % 6) (b := 1) rfl (by omega)) ?_
 refine qA rfl rfl rfl <| qN <| mwp_seq <| qR rfl <| qO rfl <| op_viewTo (y := encV (sibV 0)) (op_build rfl Tryz.underlying28 zm28 .nil (by kernel_rfl) ⟨rfl, rfl⟩) (.agg (.cons (.refl _) (.cons (.refl _) (.cons (.nil 1) (.cons (.nil 1) (.cons (.nil 5) .nil)))))) ?_
 refine qO rfl <| op_alloc' rfl zm28 rfl rfl <| qO rfl <| op_store' rfl rfl rfl rfl sz28 rfl rfl (Nat.le_of_ble_eq_true rfl) rfl <| qN <| mwp_seq <| qR rfl <| qA rfl rfl rfl <| qN <| mwp_seq <| qR rfl <| qA rfl rfl rfl <| qN <| mwp_seq <| mwp_seq <| qR rfl <| qA rfl rfl rfl <| qN <| mwp_block <| mwp_row0 8 53 2 rfl (Nat.le_refl _) rfl rfl ?_
 refine mwp_loopKJ (α := Nat) [(1, _), (5, _), (6, _), (7, _)] (fun i => [(8, .lst (some (S.length + 2)) 2 ((seenC seen i).map encT)), (9, .int .i64 ((leftL seen i).length : Int)), (10, .int .i64 (i : Int))]) (fun i => [.cells (encS (.mk 8 [.mk 3 []])).cells, .cells (encV (sibV i)).cells, .row 53 2 ((seenC seen i).map encT).length]) (fun i => i ≤ n % 6 + 1) (fun i => n % 6 + 1 - i) (0) (Nat.le_refl _) (.keep rfl (.keep rfl (.keep rfl (.keep rfl (.nil))))) (.keep rfl (.keep rfl (.keep rfl (.nil)))) (by omega) (rfl) ?_
 rintro i hi
 have hcl := seenC_len seen i
 have hll := leftL_len seen i
 refine mwp_seq <| mwp_seq <| qR rfl <| qM rfl rfl rfl <| qM rfl rfl rfl <| qC rfl rfl rfl rfl rfl <| qN ?_
 refine mwp_cond_split rfl (fun h28 => ?_) (fun h28 => ?_)
 ·
  have hlt : i < n % 6 + 1 := by have := of_decide_eq_true h28; omega
  have hstep := join_at (okV_sib i) (okV_sX i) (sib_step (i := i) (by omega))
  refine mwp_skip <| mwp_seq <| mwp_block <| mwp_seq <| qR rfl <| qM rfl rfl rfl <| qO rfl <| op_build rfl Tryz.underlying53 zm53 (.cons fo53_0 sz3 rfl rfl (Nat.le_of_ble_eq_true rfl) (.cons fo53_1 sz22 rfl rfl (Nat.le_of_ble_eq_true rfl) .nil)) (by kernel_rfl) ?_
  refine qO rfl <| op_buildSlice rfl Tryz.underlying51 el53 rfl rfl (by decide) (by decide) rfl rfl ?_
  refine qO rfl <| op_buildSlice rfl Tryz.underlying25 el51 rfl rfl (by decide) (by decide) rfl rfl ?_
  refine qM rfl rfl rfl <| qO rfl <| op_arith rfl rfl rfl (wadd (a := 97) (b := i) rfl (by omega)) ?_
  refine qO rfl <| op_convInt rfl Tryz.underlying3 Tryz.underlying5 rfl (u8_cv (show 97 + i < 256 by omega)) ?_
  refine qO rfl <| op_buildSlice rfl Tryz.underlying40 el5 rfl rfl (by decide) (by decide) rfl rfl ?_
  refine qO rfl <| op_conv_bytes (l := [UInt8.ofNat (97 + i)]) rfl Tryz.underlying40 Tryz.underlying5 Tryz.underlying9 rfl (rfl) <| qO rfl <| op_buildSlice rfl Tryz.underlying24 el9 rfl rfl (by decide) (by decide) rfl rfl ?_
  refine qO rfl <| op_viewTo (y := encV (sElt i)) (op_build rfl Tryz.underlying28 zm28 (.cons fo28_2 sz24 rfl rfl (Nat.le_of_ble_eq_true rfl) .nil) (by kernel_rfl) ⟨rfl, rfl⟩) (.agg (.cons (.refl _) (.cons (.refl _) (.cons (.refl _) (.cons (.nil 1) (.cons (.nil 5) .nil)))))) ?_
  refine qO rfl <| op_buildSlice rfl Tryz.underlying26 el28 rfl rfl (by decide) (by decide) rfl rfl ?_
  refine qO rfl <| op_viewTo (y := encV (sX i)) (op_build rfl Tryz.underlying28 zm28 (.cons fo28_3 sz25 rfl rfl (Nat.le_of_ble_eq_true rfl) (.cons fo28_4 sz26 rfl rfl (Nat.le_of_ble_eq_true rfl) .nil)) (by kernel_rfl) ⟨rfl, rfl⟩) (.agg (.cons (.refl _) (.cons (.refl _) (.cons (.nil 1) (.cons (.refl _) (.cons (.refl _) .nil)))))) ?_
  refine qO rfl <| op_alloc' rfl zm28 rfl rfl <| qO rfl <| op_store' rfl rfl rfl rfl sz28 rfl rfl (Nat.le_of_ble_eq_true rfl) rfl <| qN <| mwp_seq <| qR rfl <| qL rfl rfl rfl rfl ta35 rfl <| qL rfl rfl rfl rfl ta28 rfl <| qL rfl rfl rfl rfl ta28 rfl ?_
  refine wOps_op rfl (op_call rfl rfl rfl co11 ((hstep _).mono ?_))
  rintro _ _ ⟨rfl, rfl⟩
  refine qM rfl rfl rfl <| qO rfl <| op_extract rfl rfl rfl <| qO rfl <| op_extract rfl rfl rfl <| qO rfl <| op_alloc' rfl zm28 rfl rfl <| qO rfl <| op_store' rfl rfl rfl rfl sz28 rfl rfl (Nat.le_of_ble_eq_true rfl) rfl <| qA rfl rfl rfl <| qN <| mwp_seq <| mwp_seq <| qR rfl <| qM rfl rfl rfl <| qO rfl <| op_if0 rfl Tryz.underlying30 rfl rfl (.inr ⟨rfl, rfl⟩) <| qM rfl rfl rfl <| qF rfl rfl rfl fo28_3 <| qL rfl rfl rfl rfl ta25 rfl <| qE rfl rfl Tryz.underlying25 rfl <| qM rfl rfl rfl ?_
  refine qO rfl <| op_arith rfl rfl rfl (wadd (a := i) (b := 1) rfl (by omega)) ?_
  refine qC rfl rfl rfl rfl (sib_ne i) <| qP rfl rfl rfl rfl <| qN <| mwp_cond_f rfl (rfl) <| mwp_skip <| mwp_seq <| qR rfl <| qL rfl rfl rfl rfl ta28 rfl <| qO rfl <| op_store' rfl rfl rfl rfl sz28 rfl rfl (Nat.le_of_ble_eq_true rfl) rfl <| qN <| mwp_seq <| qR rfl <| qM rfl rfl rfl <| qM rfl rfl rfl <| qO rfl <| op_convInt rfl Tryz.underlying3 Tryz.underlying54 rfl (u64_nat (show i < _ by omega)) ?_
  refine qO rfl <| op_shr rfl rfl rfl (by omega) (shr_nat (show i ≤ 8 by omega)) ?_
  refine qO rfl <| op_bits rfl rfl rfl (and1_u8 _ (div_lt hseen)) <| qC rfl rfl rfl rfl (bit_eq _) <| qN ?_
  refine mwp_cond_split rfl (fun h67 => ?_) (fun h67 => ?_)
  ·
   have hs := seen_yes (seen := seen) (i := i) h67
   refine qR rfl <| qM rfl rfl rfl <| qM rfl rfl rfl <| qO rfl <| op_build rfl Tryz.underlying53 zm53 (.cons fo53_0 sz3 rfl rfl (Nat.le_of_ble_eq_true rfl) (.cons fo53_1 sz22 rfl rfl (Nat.le_of_ble_eq_true rfl) .nil)) (by kernel_rfl) ?_
   refine qO rfl <| op_buildSlice rfl Tryz.underlying51 el53 rfl rfl (by decide) (by decide) rfl rfl ?_
   refine qO rfl <| op_append' rfl Tryz.underlying51 el53 rfl rfl rfl (by simp) (by simp only [List.length_map, List.length_cons, List.length_nil]; omega) (by simp only [List.length_map, List.length_cons, List.length_nil]; omega) rfl ?_
   refine qA rfl rfl rfl <| qN <| qR rfl <| qM rfl rfl rfl <| qO rfl <| op_arith rfl rfl rfl rfl <| qA rfl rfl rfl <| qN ?_
   refine ⟨i + 1, _, by omega, by omega, by rw [hs.1, List.map_append, List.length_append]; rfl, .same (.new (clo_V _ _) (.new trivial .nil)), (.old rfl rfl (.old rfl rfl (.old rfl rfl (.old rfl rfl (.nil))))), (.new' rfl (by rw [hs.1, List.map_append]; rfl) (cl_lstT (by simp) (cl_encT _) encT_agg) (.new' rfl (by rw [hs.2]) (.int _ _) (.new' rfl (int_succ (show i < n % 6 + 1 by omega) (by simp only [maxLen]; omega)) (.int _ _) (.nil))))⟩
  ·
   have hs := seen_no (seen := seen) (i := i) h67
   refine qR rfl <| qM rfl rfl rfl <| qO rfl <| op_arith rfl rfl rfl (wadd (a := (leftL seen i).length) (b := 1) rfl (by omega)) ?_
   refine qA rfl rfl rfl <| qN <| qR rfl <| qM rfl rfl rfl <| qO rfl <| op_arith rfl rfl rfl rfl <| qA rfl rfl rfl <| qN ?_
   refine ⟨i + 1, _, by omega, by omega, by rw [hs.1]; rfl, .same (.new (clo_V _ _) (.new trivial .nil)), (.old rfl rfl (.old rfl rfl (.old rfl rfl (.old rfl rfl (.nil))))), (.new' rfl (by rw [hs.1]) (cl_lstT (by simp) (cl_encT _) encT_agg) (.new' rfl (by rw [hs.2, List.length_append]; rfl) (.int _ _) (.new' rfl (int_succ (show i < n % 6 + 1 by omega) (by simp only [maxLen]; omega)) (.int _ _) (.nil))))⟩
 ·
  have hge : i = n % 6 + 1 := by have := of_decide_eq_false h28; omega
  subst hge
  obtain ⟨wc, ww, hjl, hlen, hisw⟩ := sib_last (n % 6 + 1) seen (by omega)
  have hlast := join_at (okV_sib _) (okV_sY seen _) hjl
  have hokw := okV_join (okV_sib _) (okV_sY seen _) hjl
  refine mwp_exit <| mwp_seq <| qR rfl <| qM rfl rfl rfl <| qO rfl <| op_build rfl Tryz.underlying53 zm53 (.cons fo53_0 sz3 rfl rfl (Nat.le_of_ble_eq_true rfl) (.cons fo53_1 sz22 rfl rfl (Nat.le_of_ble_eq_true rfl) .nil)) (by kernel_rfl) ?_
  refine qO rfl <| op_buildSlice rfl Tryz.underlying51 el53 rfl rfl (by decide) (by decide) rfl rfl ?_
  refine qO rfl <| op_append' rfl Tryz.underlying51 el53 rfl rfl rfl (by simp) (by simp only [List.length_map, List.length_cons, List.length_nil]; omega) (by simp only [List.length_map, List.length_cons, List.length_nil]; omega) rfl ?_
  refine qA rfl rfl rfl <| qN <| mwp_seq <| qR rfl <| qL rfl rfl rfl rfl ta35 rfl <| qL rfl rfl rfl rfl ta28 rfl <| qO rfl <| op_viewTo (y := encC (seenC seen (n % 6 + 1) ++ [(50, 1)])) (op_move rfl rfl ⟨rfl, rfl⟩) (Sub.trans (.view _ _ _) (.of_eq (by unfold encC; rw [List.map_append]; rfl))) ?_
  refine qO rfl <| op_buildSlice rfl Tryz.underlying25 el51 rfl rfl (by decide) (by decide) rfl rfl ?_
  refine qO rfl <| op_buildSlice rfl Tryz.underlying24 el9 rfl rfl (by decide) (by decide) rfl rfl ?_
  refine qO rfl <| op_viewTo (y := encV sZ) (op_build rfl Tryz.underlying28 zm28 (.cons fo28_2 sz24 rfl rfl (Nat.le_of_ble_eq_true rfl) .nil) (by kernel_rfl) ⟨rfl, rfl⟩) (.agg (.cons (.refl _) (.cons (.refl _) (.cons (.refl _) (.cons (.nil 1) (.cons (.nil 5) .nil)))))) ?_
  refine qO rfl <| op_buildSlice rfl Tryz.underlying26 el28 rfl rfl (by decide) (by decide) rfl rfl ?_
  refine qO rfl <| op_viewTo (y := encV (sY seen (n % 6 + 1))) (op_build rfl Tryz.underlying28 zm28 (.cons fo28_3 sz25 rfl rfl (Nat.le_of_ble_eq_true rfl) (.cons fo28_4 sz26 rfl rfl (Nat.le_of_ble_eq_true rfl) .nil)) (by kernel_rfl) ⟨rfl, rfl⟩) (.agg (.cons (.refl _) (.cons (.refl _) (.cons (.nil 1) (.cons (.refl _) (.cons (.refl _) .nil)))))) ?_
  refine wOps_op rfl (op_call rfl rfl rfl co11 ((hlast _).mono ?_))
  rintro _ _ ⟨rfl, rfl⟩
  refine qM rfl rfl rfl <| qO rfl <| op_extract rfl rfl rfl <| qO rfl <| op_extract rfl rfl rfl <| qO rfl <| op_alloc' rfl zm28 rfl rfl <| qO rfl <| op_store' rfl rfl rfl rfl sz28 rfl rfl (Nat.le_of_ble_eq_true rfl) rfl <| qA rfl rfl rfl <| qN <| mwp_seq <| qR rfl <| qM rfl rfl rfl <| qO rfl <| op_if0 rfl Tryz.underlying30 rfl rfl (.inl ⟨rfl, rfl⟩) <| qM rfl rfl rfl <| qF rfl rfl rfl fo28_3 <| qL rfl rfl rfl rfl ta25 rfl <| qE rfl rfl Tryz.underlying25 rfl <| qM rfl rfl rfl <| qO rfl <| op_arith rfl rfl rfl (wadd (a := (leftL seen (n % 6 + 1)).length) (b := 1) rfl (by omega)) ?_
  refine qC rfl rfl rfl rfl (last_eq hlen) <| qP rfl rfl rfl rfl <| qM rfl rfl rfl <| qL rfl rfl rfl rfl ta35 rfl <| qL rfl rfl rfl rfl ta28 rfl ?_
  refine wOps_op rfl (op_call rfl rfl rfl co19 ((rValIs_spec sS _ hokw _).mono ?_))
  rintro _ _ ⟨rfl, rfl⟩
  rw [show (isF 16 sS && isVF sS (.mk 0 0 [] wc ww)) = true by rw [hisw]; rfl]
  refine qP rfl rfl rfl rfl <| qA rfl rfl rfl <| qN <| mwp_ret ?_
  exact ret_tmp (.inr rfl) Tryz.results8 rfl (.of_eq (rfl)) (.bool _) ⟨rfl, rfl⟩
end Go.Proofs.YtihpnfpdocnniaaGreat
end
section
set_option linter.unusedVariables false
set_option linter.unusedSimpArgs false
namespace Go.MV
open Go Go.RowKit Go.ChangeShapes Go.WideShapes Go.Deep
def g0 (W : World) : Gh := { B := W.heap.size, w0 := W, st := fun b => match W.heap[b]? with | some (.cells c _ _) => c.size | _ => 0, bk := fun _ => none, lg := fun _ _ => none }
theorem rel0 (W : World) : Rel (g0 W) [] W := by
  refine ⟨.refl _ _, Nat.le_refl _, fun b hb => ?_, fun _ _ => rfl, fun _ _ _ => rfl, fun _ => none, ⟨fun id o h => (by simp at h), fun i j b h => (by cases h), fun id b h => (by cases h)⟩⟩
  show (match W.heap[b]? with | some (.cells c _ _) => c.size | _ => 0) = 0
  rw [Array.getElem?_eq_none hb]
theorem stab0 {W : World} {ad : Addr} {k : Nat} {v : Value} (h : W.cell? (ad.add k) = some v) (h1 : v.oneCell' = true) : Stab (g0 W) W ad k v := by
  refine ⟨?_, h, h1⟩
  have e := cell_spot h
  rw [e] at h
  show _ < (match W.heap[(ad.add k).block]? with | some (.cells c _ _) => c.size | _ => 0)
  unfold World.cell? at h
  split at h
  · rename_i c t f hc
    simp only [Option.isSome_none, Bool.false_eq_true, if_false] at h
    simp only at hc
    rw [hc]
    exact (Array.getElem?_eq_some_iff.1 h).1
  · cases h
def TyFs (T : TypeId → List MV → Prop) : List Field → List MV → Prop
  | [], l => l = []
  | f :: fs, l => ∃ a b, l = a ++ b ∧ T f.type a ∧ TyFs T fs b
def ElF (P : Program) (e : TypeId) (x : MV) : Prop := match P.underlying e with | some (.struct _) => x = .agg x.cells | _ => [x] = x.cells
def TyM (P : Program) : Nat → TypeId → List MV → Prop
  | 0, _, _ => False
  | n + 1, t, l =>
    match P.underlying t with
    | some (.int k) => ∃ v, l = [.int k v] ∧ (Lit.int k v).wf = true
    | some .bool => ∃ b, l = [.bool b]
    | some .string => ∃ s, l = [.str s] ∧ s.size ≤ maxLen
    | some (.slice e) => ∃ xs, l = [.lst none (P.cellsOf e) xs] ∧ ∀ x ∈ xs, x.cells.length = P.cellsOf e ∧ TyM P n e x.cells ∧ ElF P e x
    | some (.struct fs) => TyFs (TyM P n) fs.toList l
    | _ => False
def contig (P : Program) (size : Nat) : List Field → Nat → Bool
  | [], off => Nat.beq off size
  | f :: fs, off => Nat.beq f.offset off && contig P size fs (off + P.cellsOf f.type)
def okTypes (P : Program) (ts : List TypeId) : Bool :=
  ts.all fun t => match P.underlying t with
    | some (.int _) | some .bool | some .string => true
    | some (.slice e) => natMem e ts && (match P.underlying e with | some (.struct _) => true | _ => Nat.beq (P.cellsOf e) 1)
    | some (.struct fs) => fs.toList.all (fun f => natMem f.type ts) && contig P (P.cellsOf t) fs.toList 0
    | _ => false
theorem rds_of_fields {P : Program} {W : World} {T : TypeId → List MV → Prop} {cs : List Value} {size : Nat} (hlen : cs.length = size) : ∀ (fs : List Field) (off : Nat), contig P size fs off = true →
    (∀ f ∈ fs, ∃ l, Rds (g0 W) W l ((cs.drop f.offset).take (P.cellsOf f.type)) ∧ T f.type l ∧ l.length = P.cellsOf f.type ∧ ∀ y ∈ l, y.one = true) → ∃ l, Rds (g0 W) W l (cs.drop off) ∧ TyFs T fs l ∧ ∀ y ∈ l, y.one = true
  | [], off, hc, _ => by
    have := Nat.eq_of_beq_eq_true hc
    refine ⟨[], ?_, rfl, fun y hy => by cases hy⟩
    rw [List.drop_eq_nil_of_le (by omega)]
    exact .nil _ _
  | f :: fs, off, hc, h => by
    simp only [contig, Bool.and_eq_true] at hc
    have ho := Nat.eq_of_beq_eq_true hc.1
    obtain ⟨a, h1, h2, h3, h5⟩ := h f (List.mem_cons_self ..)
    obtain ⟨b, k1, k2, k3⟩ := rds_of_fields hlen fs _ hc.2 (fun f' hf' => h f' (List.mem_cons_of_mem _ hf'))
    refine ⟨a ++ b, ?_, ⟨a, b, rfl, h2, k2⟩, fun y hy => (List.mem_append.1 hy).elim (h5 y) (k3 y)⟩
    have e : cs.drop off = (cs.drop off).take (P.cellsOf f.type) ++ cs.drop (off + P.cellsOf f.type) := by
      rw [← List.drop_drop, List.take_append_drop]
    rw [e]
    rw [ho] at h1
    exact h1.append k1
theorem tyFs_mono {T T' : TypeId → List MV → Prop} (h : ∀ t l, T t l → T' t l) : ∀ (fs : List Field) (l : List MV), TyFs T fs l → TyFs T' fs l
  | [], l, hl => hl
  | f :: fs, l, ⟨a, b, e, h1, h2⟩ => ⟨a, b, e, h _ _ h1, tyFs_mono h fs b h2⟩
theorem tyM_succ {P : Program} : ∀ (n : Nat) (t : TypeId) (l : List MV), TyM P n t l → TyM P (n + 1) t l
  | 0, t, l, h => h.elim
  | n + 1, t, l, h => by
    unfold TyM at h ⊢
    split at h
    · rename_i k hu; exact h
    · rename_i hu; exact h
    · rename_i hu; exact h
    · rename_i e hu
      obtain ⟨xs, h1, h2⟩ := h
      exact ⟨xs, h1, fun x hx => ⟨(h2 x hx).1, tyM_succ n _ _ (h2 x hx).2.1, (h2 x hx).2.2⟩⟩
    · rename_i fs hu; exact tyFs_mono (tyM_succ n) _ _ h
    · exact h.elim
theorem tyM_le {P : Program} {n m : Nat} (h : n ≤ m) {t : TypeId} {l : List MV} (ht : TyM P n t l) : TyM P m t l := by
  obtain ⟨d, rfl⟩ := Nat.le.dest h
  induction d with
  | zero => exact ht
  | succ d ih => exact tyM_succ _ _ _ (ih (by omega))
section
variable {H : Type} {enc : TypeId × Value → H} {P : Program} {W : World} {base : Nat} {spare : Nat → Bool} {held : Bool}
theorem common_bound {α : Type} {p : Nat → α → Prop} (hm : ∀ n m a, n ≤ m → p n a → p m a) : ∀ (l : List α), (∀ a ∈ l, ∃ n, p n a) → ∃ n, ∀ a ∈ l, p n a
  | [], _ => ⟨0, fun a h => by cases h⟩
  | a :: l, h => by
    obtain ⟨n, hn⟩ := h a (List.mem_cons_self ..)
    obtain ⟨m, hm'⟩ := common_bound hm l (fun b hb => h b (List.mem_cons_of_mem _ hb))
    refine ⟨max n m, fun b hb => ?_⟩
    rcases List.mem_cons.1 hb with rfl | hb
    · exact hm _ _ _ (by omega) hn
    · exact hm _ _ _ (by omega) (hm' b hb)
theorem reads_gen {ts : List TypeId} (hok : okTypes P ts = true) : ∀ (n : Nat) (x : DataW H × List MemPlace) (fuel : Nat) (t : TypeId) (cs : List Value), SizeOf.sizeOf x.1 ≤ n → t ∈ ts → DataW.trod enc P W base spare held fuel t cs = some x →
    ∃ (l : List MV) (m : Nat), Rds (g0 W) W l cs ∧ TyM P m t l ∧ ∀ y ∈ l, y.one = true := by
  intro n
  induction n using Nat.strongRecOn with
  | _ n ih =>
  intro x fuel t cs hx ht h
  have hot : (match P.underlying t with
    | some (.int _) | some .bool | some .string => true
    | some (.slice e) => natMem e ts && (match P.underlying e with | some (.struct _) => true | _ => Nat.beq (P.cellsOf e) 1)
    | some (.struct fs) => fs.toList.all (fun f => natMem f.type ts) && contig P (P.cellsOf t) fs.toList 0
    | _ => false) = true := by
    simp only [okTypes, List.all_eq_true] at hok
    exact hok t ht
  split at hot
  · rename_i k hu
    obtain ⟨v, rfl, rfl, hwf⟩ := DataW.trod_int hu h
    refine ⟨[.int k v], 1, .cons (.int _ _) (.nil _ _), ?_, by simp [MV.one]⟩
    unfold TyM
    rw [hu]
    exact ⟨v, rfl, hwf⟩
  · rename_i hu
    obtain ⟨b, rfl, rfl⟩ := DataW.trod_bool hu h
    refine ⟨[.bool b], 1, .cons (.bool _) (.nil _ _), ?_, by simp [MV.one]⟩
    unfold TyM
    rw [hu]
    exact ⟨b, rfl⟩
  · rename_i hu
    obtain ⟨s, rfl, rfl, hs⟩ := DataW.trod_string hu h
    refine ⟨[.str s], 1, .cons (.str _) (.nil _ _), ?_, by simp [MV.one]⟩
    unfold TyM
    rw [hu]
    exact ⟨s, rfl, hs⟩
  · rename_i e hu
    simp only [Bool.and_eq_true] at hot
    have he : e ∈ ts := natMem_iff.1 hot.1
    rcases open_slice hu h with ⟨rfl, rfl⟩ | ⟨a, len, cap, m, n', D, Pl, rfl, hb, hl, hm, hmm, rfl, hi⟩
    · refine ⟨[.lst none (P.cellsOf e) []], 1, .cons (Sub.nil _ _ _ _ .lst0) (.nil _ _), ?_, by simp [MV.one]⟩
      unfold TyM
      rw [hu]
      exact ⟨[], rfl, fun x hx => by cases hx⟩
    · have hlm : len ≤ m := by rw [hmm]; split <;> omega
      have hel : ∀ i, i < len → ∃ (l : List MV) (k : Nat) (us : List Value), us.length = P.cellsOf e ∧ Rds (g0 W) W l us ∧ TyM P k e l ∧ (∀ y ∈ l, y.one = true) ∧ ∀ j, j < P.cellsOf e → W.cell? ((a.add (i * P.cellsOf e)).add j) = us[j]? := by
        intro i hil
        obtain ⟨cs', hc, ht'⟩ := hi i (by omega)
        obtain ⟨_, hlen, hcell⟩ := World.cells?_some hc
        have hsz : SizeOf.sizeOf (D i) < n := by
          have hmem : D i ∈ (List.range len).map D := List.mem_map.2 ⟨i, List.mem_range.2 hil, rfl⟩
          have := List.sizeOf_lt_of_mem hmem
          simp only [DataW.slice.sizeOf_spec] at hx
          omega
        obtain ⟨l, k, h1, h2, h3⟩ := ih _ hsz (D i, Pl i) n' e cs' (Nat.le_refl _) he ht'
        exact ⟨l, k, cs', hlen, h1, h2, h3, hcell⟩
      have hall : ∀ (N : Nat), N ≤ len → ∃ (xs : List MV) (us : List Value) (k : Nat), xs.length = N ∧ us.length = N * P.cellsOf e ∧ Rds (g0 W) W (flat xs) us ∧ (∀ y ∈ flat xs, y.one = true) ∧ (∀ x ∈ xs, x.cells.length = P.cellsOf e ∧ TyM P k e x.cells ∧ ElF P e x) ∧
          ∀ j, j < N * P.cellsOf e → W.cell? (a.add j) = us[j]? := by
        intro N
        induction N with
        | zero => exact fun _ => ⟨[], [], 0, rfl, by simp, .nil _ _, by simp [flat], by simp, by simp⟩
        | succ N ihN =>
          intro hN
          obtain ⟨xs, us, k, q1, q2, q3, q4, q5, q6⟩ := ihN (by omega)
          obtain ⟨l, k', us', r1, r2, r3, r4, r5⟩ := hel N (by omega)
          have hll : l.length = P.cellsOf e := by rw [← r2.1, r1]
          obtain ⟨y, hy1, hy2⟩ : ∃ y : MV, y.cells = l ∧ ElF P e y := by
            cases hue : P.underlying e with
            | none => 
              have hk1 : P.cellsOf e = 1 := by have := hot.2; rw [hue] at this; exact Nat.eq_of_beq_eq_true this
              match l, hll.trans hk1 with
              | [y], _ =>
                have := r4 y (List.mem_cons_self ..)
                simp only [ElF, hue]
                refine ⟨y, ?_, ?_⟩ <;> (cases y <;> first | rfl | (cases this; done))
            | some d =>
              cases d with
              | struct fs => exact ⟨.agg l, rfl, by simp only [ElF, hue]; rfl⟩
              | _ =>
                have hk1 : P.cellsOf e = 1 := by have := hot.2; rw [hue] at this; exact Nat.eq_of_beq_eq_true this
                match l, hll.trans hk1 with
                | [y], _ =>
                  have := r4 y (List.mem_cons_self ..)
                  simp only [ElF, hue]
                  refine ⟨y, ?_, ?_⟩ <;> (cases y <;> first | rfl | (cases this; done))
          refine ⟨xs ++ [y], us ++ us', max k k', by simp [q1], by rw [List.length_append, q2, r1, Nat.add_mul]; omega, ?_, ?_, ?_, ?_⟩
          · rw [flat_append]
            refine q3.append ?_
            simp only [flat, List.flatMap_cons, List.flatMap_nil, List.append_nil, hy1]
            exact r2
          · intro z hz
            rw [flat_append, List.mem_append] at hz
            rcases hz with hz | hz
            · exact q4 z hz
            · simp only [flat, List.flatMap_cons, List.flatMap_nil, List.append_nil, hy1] at hz
              exact r4 z hz
          · intro x hx
            rcases List.mem_append.1 hx with hx | hx
            · exact ⟨(q5 x hx).1, tyM_le (by omega) (q5 x hx).2.1, (q5 x hx).2.2⟩
            · simp at hx
              subst hx
              rw [hy1]
              exact ⟨hll, tyM_le (by omega) r3, hy2⟩
          · intro j hj
            rw [Nat.add_mul, Nat.one_mul] at hj
            by_cases hjl : j < N * P.cellsOf e
            · rw [List.getElem?_append_left (by omega)]
              exact q6 j hjl
            · rw [List.getElem?_append_right (by omega), q2, ← r5 (j - N * P.cellsOf e) (by omega), Go.MV.add_add]
              congr 2
              omega
      obtain ⟨xs, us, k, q1, q2, q3, q4, q5, q6⟩ := hall len (Nat.le_refl _)
      refine ⟨[.lst none (P.cellsOf e) xs], k + 1, .cons (.lst' q1 hl hm (fun x hx => (q5 x hx).1) q3 (fun j u hu => ⟨a, rfl, stab0 ?_ ?_⟩) (fun t ht => by cases ht)) (.nil _ _), ?_, by simp [MV.one]⟩
      · have hj : j < us.length := (List.getElem?_eq_some_iff.1 hu).1
        rw [q6 j (by omega)]
        exact hu
      · have hj : j < us.length := (List.getElem?_eq_some_iff.1 hu).1
        have hjf : j < (flat xs).length := by rw [← q3.1]; exact hj
        exact one_cell (q3.2 j _ u (List.getElem?_eq_getElem hjf) hu) (q4 _ (List.getElem_mem hjf))
      · unfold TyM
        rw [hu]
        exact ⟨xs, rfl, q5⟩
  · rename_i fs hu
    simp only [Bool.and_eq_true, List.all_eq_true] at hot
    obtain ⟨xs, n', rfl, rfl, hlen, hxl, hf⟩ := DataW.trod_struct hu h
    have hfld : ∀ f ∈ fs.toList, ∃ (k : Nat) (l : List MV), Rds (g0 W) W l ((cs.drop f.offset).take (P.cellsOf f.type)) ∧ TyM P k f.type l ∧ ∀ y ∈ l, y.one = true := by
      intro f hfm
      obtain ⟨i, hi⟩ := List.getElem?_of_mem hfm
      have hi' : fs[i]? = some f := by simpa using hi
      have hilt : i < xs.length := by rw [hxl]; exact (Array.getElem?_eq_some_iff.1 hi').1
      have htr := hf i f hi'
      rw [List.getElem?_eq_getElem hilt] at htr
      have hsz : SizeOf.sizeOf xs[i].1 < n := by
        have hmem : xs[i].1 ∈ xs.map (·.1) := List.mem_map.2 ⟨xs[i], List.getElem_mem hilt, rfl⟩
        have := List.sizeOf_lt_of_mem hmem
        simp only [DataW.agg.sizeOf_spec] at hx
        omega
      obtain ⟨l, k, h1, h2, h3⟩ := ih _ hsz xs[i] n' f.type _ (Nat.le_refl _) (natMem_iff.1 (hot.1 f hfm)) htr
      exact ⟨k, l, h1, h2, h3⟩
    obtain ⟨K, hK⟩ := common_bound (p := fun k (f : Field) => ∃ l : List MV, Rds (g0 W) W l ((cs.drop f.offset).take (P.cellsOf f.type)) ∧ TyM P k f.type l ∧ ∀ y ∈ l, y.one = true) (fun a b f hab ⟨l, h1, h2, h3⟩ => ⟨l, h1, tyM_le hab h2, h3⟩) fs.toList hfld
    have hcont := hot.2
    have hlens : ∀ (gs : List Field) (off : Nat), contig P (P.cellsOf t) gs off = true → off ≤ P.cellsOf t ∧ ∀ f ∈ gs, f.offset + P.cellsOf f.type ≤ P.cellsOf t := by
      intro gs
      induction gs with
      | nil => exact fun off hc => ⟨Nat.le_of_eq (Nat.eq_of_beq_eq_true hc), fun f hf => by cases hf⟩
      | cons f gs ihg =>
        intro off hc
        simp only [contig, Bool.and_eq_true] at hc
        have ho := Nat.eq_of_beq_eq_true hc.1
        obtain ⟨h1, h2⟩ := ihg _ hc.2
        refine ⟨by omega, fun f' hf' => ?_⟩
        rcases List.mem_cons.1 hf' with rfl | hf'
        · omega
        · exact h2 f' hf'
    obtain ⟨l, h1, h2, h3⟩ := rds_of_fields (P := P) (W := W) (T := TyM P K) hlen fs.toList 0 hcont (fun f hfm => by
      obtain ⟨l, h1, h2, h3⟩ := hK f hfm
      refine ⟨l, h1, h2, ?_, h3⟩
      have := (hlens _ _ hcont).2 f hfm
      rw [← h1.1, List.length_take, List.length_drop, hlen]
      omega)
    refine ⟨l, K + 1, by simpa using h1, ?_, h3⟩
    unfold TyM
    rw [hu]
    exact h2
  · cases hot
end
section
variable {H : Type} {enc : TypeId × Value → H} {P : Program} {W : World} {base b0 : Nat} {spare : Nat → Bool} {held : Bool} {r : Reach}
theorem arg_one {ts : List TypeId} (hok : okTypes P ts = true) {t : TypeId} (ht : t ∈ ts) {v : Value} {d : DataW H} {p : List MemPlace} (hv : v.cells = #[v]) (h : DataW.Trod enc P W base spare held t v d p) :
    ∃ (l : List MV) (m : Nat), Rds (g0 W) W l [v] ∧ TyM P m t l := by
  obtain ⟨fuel, hf⟩ := h
  rw [hv] at hf
  obtain ⟨l, m, h1, h2, _⟩ := reads_gen hok _ _ _ _ _ (Nat.le_refl _) ht hf
  exact ⟨l, m, h1, h2⟩
end
theorem law_calls {P : Program} {f : FuncId} {xs : List MV} {W : World} {vs : List Value} (h : MCalls P f xs [] fun v σ' => v = .bool true ∧ σ' = []) (hr : Rds (g0 W) W xs vs) : Calls P f vs.toArray W fun e w' => e = .returned (.bool true) ∧ Below W.heap.size W w' := by
  refine (callsIn_wide.1 (h (g0 W) W vs (rel0 W) hr)).mono ?_
  rintro e w' ⟨v, rfl, x, σ', g', ⟨rfl, rfl⟩, hrel, hrd, hle⟩
  rw [hrd.inv_bool]
  have := hrel.below
  rw [hle.B, hle.w0] at this
  exact ⟨rfl, this⟩
end Go.MV
end
section
set_option linter.unusedVariables false
set_option linter.unusedSimpArgs false
namespace Go.MV
open Go Go.RowKit Go.WideShapes Go.ChangeShapes
section
variable {H : Type} {enc : TypeId × Value → H} {P : Program} {W : World} {base b0 : Nat} {spare : Nat → Bool} {held : Bool} {r : Reach} {ts : List TypeId} {t : TypeId} {v : Value} {d : DataW H} {p : List MemPlace}
theorem tyM_intK {k : IntKind} (hu : P.underlying t = some (.int k)) {n : Nat} {l : List MV} (h : TyM P n t l) : ∃ v, l = [.int k v] ∧ (Lit.int k v).wf = true := by
  cases n with
  | zero => exact h.elim
  | succ n => unfold TyM at h; rw [hu] at h; exact h
theorem rd_of_rds {g : Gh} {w : World} {m : MV} {v : Value} (h : Rds g w [m] [v]) : Rd g w m v := h.2 0 _ _ rfl rfl
theorem arg_int {k : IntKind} (hok : okTypes P ts = true) (ht : t ∈ ts) (hu : P.underlying t = some (.int k)) (hv : Value.okWide P W r b0 t v) (h : DataW.Trod enc P W base spare held t v d p) : ∃ n, Rd (g0 W) W (.int k n) v ∧ (Lit.int k n).wf = true := by
  obtain ⟨n, rfl⟩ := okWide_int hu hv
  obtain ⟨l, m, h1, h2⟩ := arg_one hok ht rfl h
  obtain ⟨n', rfl, hw⟩ := tyM_intK hu h2
  exact ⟨n', rd_of_rds h1, hw⟩
theorem wf_u8 {n : Int} (h : (Lit.int .u8 n).wf = true) : ∃ m : Nat, n = (m : Int) ∧ m ≤ 255 := by
  simp [Lit.wf, IntKind.min, IntKind.max, IntKind.signed, IntKind.bits] at h
  exact ⟨n.toNat, by omega, by omega⟩
end
end Go.MV
end
