/-
  Texts on which the proof of JoinRows leans: part 6.
-/
import Derived.Test.YtlooahbfpmigfaaGreatJoinRowsE
import Derived.Deep.Slices
import Derived.ChangeSame
import Derived.ProofKit
import Derived.OpenShut
import Derived.ChangeOld
import Derived.SizedLaws
import Derived.Carry
section
set_option linter.unusedVariables false
set_option linter.unusedSimpArgs false
set_option maxRecDepth 20000
set_option maxHeartbeats 400000
namespace Go.Proofs.YtlooahbfpmigfaaGreat
open Go Go.MV
theorem wf_u32 {n : Int} (h : (Lit.int .u32 n).wf = true) : ∃ m : Nat, n = (m : Int) ∧ m < 4294967296 := by
 simp [Lit.wf, IntKind.min, IntKind.max, IntKind.signed, IntKind.bits] at h
 exact ⟨n.toNat, by omega, by omega⟩
theorem wrap_u32 {n : Int} (h : 0 ≤ n ∧ n < 4294967296) : IntKind.u32.wrap n = n := by
 simp [IntKind.wrap, IntKind.signed, IntKind.bits]
 omega
theorem and1_u32 {x : Nat} (hx : x < 4294967296) : bitsI .and .u32 (x : Int) 1 = some ((x % 2 : Nat) : Int) := by
 show some (IntKind.u32.wrap ((BitVec.ofInt 32 (x : Int) &&& BitVec.ofInt 32 ((1 : Nat) : Int)).toNat : Int)) = _
 simp only [BitVec.ofInt_natCast, BitVec.toNat_and, BitVec.toNat_ofNat]
 rw [Nat.mod_eq_of_lt (show x < 2 ^ 32 by omega), show 1 % 2 ^ 32 = 1 by decide, Nat.and_one_is_mod, wrap_u32 (by omega)]
theorem shr_nat32 {m i : Nat} (hi : i ≤ 32) : Int.fdiv (m : Int) (2 ^ min ((i : Int).toNat) IntKind.u32.bits) = ((m / 2 ^ i : Nat) : Int) := by
 rw [show min ((i : Int).toNat) IntKind.u32.bits = i by rw [Int.toNat_natCast]; simp [IntKind.bits]; omega, show (2 : Int) ^ i = ((2 ^ i : Nat) : Int) by simp, Int.fdiv_eq_ediv_of_nonneg _ (Int.natCast_nonneg _)]
 rfl
theorem bit_eq32 (x : Nat) : intCmp .eql ((x % 2 : Nat) : Int) 1 = some (decide (x % 2 = 1)) := by
 simp only [intCmp, Option.some.injEq]
 by_cases h : x % 2 = 1
 ·simp [h]
 ·have h0 : x % 2 = 0 := by omega
  simp [h0]
theorem div_lt32 {x i : Nat} (h : x < 4294967296) : x / 2 ^ i < 4294967296 := Nat.lt_of_le_of_lt (Nat.div_le_self _ _) h
def atM (l : List Val) (b j : Nat) : Val := l.getD ((j + b) % l.length) noV
def twM (tw j : Nat) : Bool := decide (tw / 2 ^ j % 2 = 1)
def mT (l : List Val) (b tw : Nat) : Nat → List Val
 | 0 => []
 | i + 1 => mT l b tw i ++ (if twM tw i = true then [atM l b i, atM l b i] else [atM l b i])
theorem mT_len (l : List Val) (b tw : Nat) : ∀ i, (mT l b tw i).length ≤ 2 * i
 | 0 => by simp [mT]
 | i + 1 => by
  have := mT_len l b tw i
  rw [mT, List.length_append]
  split <;> simp <;> omega
theorem mT_mem (l : List Val) (b tw : Nat) : ∀ i x, x ∈ mT l b tw i ↔ ∃ j, j < i ∧ x = atM l b j
 | 0, x => by simp [mT]
 | i + 1, x => by
  rw [mT, List.mem_append, mT_mem l b tw i x]
  have h : x ∈ (if twM tw i = true then [atM l b i, atM l b i] else [atM l b i]) ↔ x = atM l b i := by split <;> simp
  rw [h]
  constructor
  ·rintro (⟨j, hj, e⟩ | e)
   ·exact ⟨j, by omega, e⟩
   ·exact ⟨i, by omega, e⟩
  ·rintro ⟨j, hj, e⟩
   by_cases hji : j = i
   ·subst hji; exact .inr e
   ·exact .inl ⟨j, by omega, e⟩
theorem cl_lstV {n t : Nat} (ht : t < n) (l : List Val) : Cl n (.lst (some t) 5 (encVs l)) := .lst _ 5 _ (fun s hs => by injection hs with hs; omega) (cl_encVs n l)
theorem atM_mem {l : List Val} {b j : Nat} (h : 0 < l.length) : atM l b j ∈ l := by
 unfold atM
 have := Nat.mod_lt (j + b) h
 simp [this]
theorem mT_sub {l : List Val} {b tw : Nat} (h : 0 < l.length) : ∀ x ∈ mT l b tw l.length, x ∈ l := fun x hx => by
 obtain ⟨j, _, rfl⟩ := (mT_mem l b tw _ x).1 hx
 exact atM_mem h
theorem mT_sup {l : List Val} {b tw : Nat} : ∀ x ∈ l, x ∈ mT l b tw l.length := fun x hx => by
 obtain ⟨q, hq, rfl⟩ := List.mem_iff_getElem.1 hx
 have hb := Nat.mod_lt b (show 0 < l.length by omega)
 refine (mT_mem l b tw _ _).2 ⟨(q + (l.length - b % l.length)) % l.length, Nat.mod_lt _ (by omega), ?_⟩
 unfold atM
 have e : ((q + (l.length - b % l.length)) % l.length + b) % l.length = q := by
  rw [Nat.mod_add_mod, show q + (l.length - b % l.length) + b = q + (l.length - b % l.length + b) by omega]
  have hdm := Nat.div_add_mod b l.length
  have : l.length - b % l.length + b = l.length * (b / l.length + 1) := by rw [Nat.mul_add, Nat.mul_one]; omega
  rw [this, Nat.add_mul_mod_self_left, Nat.mod_eq_of_lt hq]
 rw [e]
 simp [hq]
theorem atM_eq {l : List Val} {b j : Nat} {x : Val} (h : l[(j + b) % l.length]? = some x) : atM l b j = x := by unfold atM; simp [h]
theorem mT_yes {l : List Val} {b tw i : Nat} {x : Val} (h : l[(i + b) % l.length]? = some x) (hb : twM tw i = true) : mT l b tw (i + 1) = mT l b tw i ++ [x] ++ [x] := by rw [mT, if_pos hb, atM_eq h, List.append_assoc]; rfl
theorem mT_no {l : List Val} {b tw i : Nat} {x : Val} (h : l[(i + b) % l.length]? = some x) (hb : twM tw i = false) : mT l b tw (i + 1) = mT l b tw i ++ [x] := by rw [mT, if_neg (by rw [hb]; decide), atM_eq h]
theorem AllF_cases {s : Sch} {l m : List Val} (ho : ∀ x ∈ l, okV x) (h1 : ∀ x ∈ m, x ∈ l) (h2 : ∀ x ∈ l, x ∈ m) :
  (AllF s l = .error 14 ∧ AllF s m = .error 14) ∨ (AllF s l = .error 13 ∧ AllF s m = .error 13) ∨ (AllF s l = .error 13 ∧ AllF s m = .error 14) ∨ (AllF s l = .error 14 ∧ AllF s m = .error 13) ∨
  (∃ n m' t c w, AllF s l = .error 13 ∧ AllF s m = .ok (.mk n m' t c w)) ∨ (∃ n m' t c w, AllF s l = .ok (.mk n m' t c w) ∧ AllF s m = .error 13) ∨ ∃ n m' t c w, AllF s l = .ok (.mk n m' t c w) ∧ AllF s m = .ok (.mk n m' t c w) := by
 rcases AllF_same ho h1 h2 with ⟨a, b⟩ | ⟨⟨e, a, h⟩, e2, b, k⟩ | ⟨⟨e, a, rfl⟩, v, b⟩ | ⟨⟨v, a⟩, e, b, rfl⟩ | ⟨v, a, b⟩
 ·exact .inl ⟨a, b⟩
 ·rcases h with rfl | rfl <;> rcases k with rfl | rfl
  ·exact .inr (.inl ⟨a, b⟩)
  ·exact .inr (.inr (.inl ⟨a, b⟩))
  ·exact .inr (.inr (.inr (.inl ⟨a, b⟩)))
  ·exact .inl ⟨a, b⟩
 ·obtain ⟨n, m', t, c, w⟩ := v
  exact .inr (.inr (.inr (.inr (.inl ⟨_, _, _, _, _, a, b⟩))))
 ·obtain ⟨n, m', t, c, w⟩ := v
  exact .inr (.inr (.inr (.inr (.inr (.inl ⟨_, _, _, _, _, a, b⟩)))))
 ·obtain ⟨n, m', t, c, w⟩ := v
  exact .inr (.inr (.inr (.inr (.inr (.inr ⟨_, _, _, _, _, a, b⟩)))))
theorem JoinRows_spec (s : Sch) (l : List Val) (b tw : Nat) (ho : ∀ x ∈ l, okV x) (hb : b < 256) (ht : tw < 4294967296) (S : MS) : MCalls Tryz.prog 9 [encS s, .lst none 5 (encVs l), .int .u8 (b : Int), .int .u32 (tw : Int)] S fun v σ' => v = .bool true ∧ σ' = S := by
 obtain ⟨k, ins⟩ := s
 refine mcalls_body Tryz.func9 rfl Tryz.ntmps9 (Nat.le_of_ble_eq_true rfl) ?_
 refine mwp_len (t := 1) rfl fun hlen => ?_
 rw [encVs_length] at hlen
 refine mwp_seq <| qR rfl <| qB rfl rfl rfl rfl rfl <| qA rfl rfl rfl <| qN <| mwp_seq <| mwp_seq <| qR rfl ?_
 refine wOps_op rfl (op_call rfl rfl rfl co30 ((knownJ_spec _).mono ?_))
 rintro _ _ ⟨rfl, rfl⟩
 refine qO rfl <| op_not rfl rfl <| qN <| mwp_cond_f rfl (rfl) <| mwp_skip <| mwp_seq <| mwp_seq <| qR rfl <| qM rfl rfl rfl <| qE rfl rfl Tryz.underlying27 rfl <| qC rfl rfl rfl rfl rfl <| qM rfl rfl rfl ?_
 refine wOps_case (fun h21 => ?_) (fun h21 => ?_)
 ·
  refine qS rfl <| qS rfl <| qS rfl <| qP rfl rfl rfl rfl <| qN <| mwp_cond_t rfl (rfl) <| mwp_seq <| qR rfl <| qA rfl rfl rfl <| qN <| mwp_ret ?_
  exact ret_tmp (.inr rfl) Tryz.results9 rfl (.of_eq (rfl)) (.bool _) ⟨rfl, rfl⟩
 ·
  have hl0 : l.length ≠ 0 := by rw [encVs_length] at h21; simpa using h21
  refine qM rfl rfl rfl <| qE rfl rfl Tryz.underlying27 rfl <| qC rfl rfl rfl rfl rfl <| qP rfl rfl rfl rfl <| qN ?_
  refine mwp_cond_split rfl (fun h25 => ?_) (fun h25 => ?_)
  ·
   refine mwp_seq <| qR rfl <| qA rfl rfl rfl <| qN <| mwp_ret ?_
   exact ret_tmp (.inr rfl) Tryz.results9 rfl (.of_eq (rfl)) (.bool _) ⟨rfl, rfl⟩
  ·
   have hl8 : l.length ≤ 8 := by rw [encVs_length] at h25; have := of_decide_eq_false h25; omega
   refine mwp_skip <| mwp_seq <| qR rfl <| qA rfl rfl rfl <| qN <| mwp_seq <| mwp_seq <| qR rfl <| qA rfl rfl rfl <| qN <| mwp_block <| mwp_row0 9 29 5 rfl (Nat.le_refl _) rfl rfl ?_
   refine mwp_loopKJ (α := Nat) [(1, _), (2, _), (3, _), (4, _)] (fun i => [(9, .lst (some (S.length + 1)) 5 (encVs (mT l b tw i))), (10, .int .i64 (i : Int))]) (fun i => [.cells (encS (.mk k ins)).cells, .row 29 5 (encVs (mT l b tw i)).length]) (fun i => i ≤ l.length) (fun i => l.length - i) (0) (Nat.le_refl _) (.keep rfl (.keep rfl (.keep rfl (.keep rfl (.nil))))) (.keep rfl (.keep rfl (.nil))) (by omega) (rfl) ?_
   rintro i hi
   have hml := mT_len l b tw i
   refine mwp_seq <| mwp_seq <| qR rfl <| qM rfl rfl rfl <| qM rfl rfl rfl <| qE rfl rfl Tryz.underlying27 rfl <| qC rfl rfl rfl rfl rfl <| qN ?_
   refine mwp_cond_split rfl (fun h29 => ?_) (fun h29 => ?_)
   ·
    have hlt : i < l.length := by rw [encVs_length] at h29; have := of_decide_eq_true h29; omega
    obtain ⟨⟨n1, m1, s1, c1, w1⟩, hx⟩ : ∃ q, l[(i + b) % l.length]? = some q := ⟨_, List.getElem?_eq_getElem (Nat.mod_lt _ (by omega))⟩
    refine mwp_skip <| mwp_seq <| mwp_block <| mwp_seq <| qR rfl <| qM rfl rfl rfl <| qM rfl rfl rfl <| qM rfl rfl rfl <| qO rfl <| op_convInt rfl Tryz.underlying5 Tryz.underlying3 rfl (i64_nat (show b < _ by omega)) ?_
    refine qO rfl <| op_arith rfl rfl rfl (wadd (a := i) (b := b) rfl (by omega)) ?_
    refine qM rfl rfl rfl <| qE rfl rfl Tryz.underlying27 rfl <| qO rfl <| op_rem rfl rfl rfl (by rw [encVs_length]; omega) (by rw [encVs_length, rem_nat]) ?_
    refine qO rfl <| op_indexAddr rfl Tryz.underlying27 sz29 (by decide) rfl rfl rfl (encVs_get hx) ?_
    refine qO rfl <| op_load_sptr rfl rfl ta29 rfl <| qO rfl <| op_alloc' rfl zm29 rfl rfl <| qO rfl <| op_store' rfl rfl rfl rfl sz29 rfl rfl (Nat.le_of_ble_eq_true rfl) rfl <| qN <| mwp_seq <| qR rfl <| qM rfl rfl rfl <| qL rfl rfl rfl rfl ta29 rfl <| qO rfl <| op_buildSlice rfl Tryz.underlying27 el29 rfl rfl (by decide) (by decide) rfl rfl ?_
    refine qO rfl <| op_append' rfl Tryz.underlying27 el29 rfl rfl rfl (by simp) (by simp only [encVs_length, List.length_append, List.length_cons, List.length_nil]; omega) (by simp only [encVs_length, List.length_append, List.length_cons, List.length_nil]; omega) rfl ?_
    refine qA rfl rfl rfl <| qN <| mwp_seq <| qR rfl <| qM rfl rfl rfl <| qM rfl rfl rfl <| qO rfl <| op_convInt rfl Tryz.underlying3 Tryz.underlying59 rfl (u64_nat (show i < _ by omega)) ?_
    refine qO rfl <| op_shr rfl rfl rfl (by omega) (shr_nat32 (show i ≤ 32 by omega)) ?_
    refine qO rfl <| op_bits rfl rfl rfl (and1_u32 (div_lt32 ht)) <| qC rfl rfl rfl rfl (bit_eq32 _) <| qN ?_
    refine mwp_cond_split rfl (fun h51 => ?_) (fun h51 => ?_)
    ·
     have hm2 := mT_yes (tw := tw) hx h51
     refine qR rfl <| qM rfl rfl rfl <| qL rfl rfl rfl rfl ta29 rfl <| qO rfl <| op_buildSlice rfl Tryz.underlying27 el29 rfl rfl (by decide) (by decide) rfl rfl ?_
     refine qO rfl <| op_append' rfl Tryz.underlying27 el29 rfl rfl rfl (by simp) (by simp only [encVs_length, List.length_append, List.length_cons, List.length_nil]; omega) (by simp only [encVs_length, List.length_append, List.length_cons, List.length_nil]; omega) rfl ?_
     refine qA rfl rfl rfl <| qN <| qR rfl <| qM rfl rfl rfl <| qO rfl <| op_arith rfl rfl rfl rfl <| qA rfl rfl rfl <| qN ?_
     refine ⟨i + 1, _, by omega, by omega, by rw [hm2, encVs_append, encVs_append, List.length_append, List.length_append]; rfl, .same (.new trivial .nil), (.old rfl rfl (.old rfl rfl (.old rfl rfl (.old rfl rfl (.nil))))), (.new' rfl (by rw [hm2, encVs_append, encVs_append]; rfl) (cl_lstV (by simp) _) (.new' rfl (int_succ hlt hlen) (.int _ _) (.nil)))⟩
    ·
     have hm2 := mT_no (tw := tw) hx h51
     refine mwp_skip <| qR rfl <| qM rfl rfl rfl <| qO rfl <| op_arith rfl rfl rfl rfl <| qA rfl rfl rfl <| qN ?_
     refine ⟨i + 1, _, by omega, by omega, by rw [hm2, encVs_append, List.length_append]; rfl, .same (.new trivial .nil), (.old rfl rfl (.old rfl rfl (.old rfl rfl (.old rfl rfl (.nil))))), (.new' rfl (by rw [hm2, encVs_append]; rfl) (cl_lstV (by simp) _) (.new' rfl (int_succ hlt hlen) (.int _ _) (.nil)))⟩
   ·
    have hge : i = l.length := by rw [encVs_length] at h29; have := of_decide_eq_false h29; omega
    subst hge
    have hom : ∀ x ∈ mT l b tw l.length, okV x := fun x hx => ho x (mT_sub (by omega) x hx)
    refine mwp_exit <| mwp_seq ?_
    rcases AllF_cases (s := (.mk k ins)) (m := mT l b tw l.length) ho (mT_sub (by omega)) mT_sup with ⟨ha, hb⟩ | ⟨ha, hb⟩ | ⟨ha, hb⟩ | ⟨ha, hb⟩ | ⟨n3, m3, s3, c3, w3, ha, hb⟩ | ⟨n3, m3, s3, c3, w3, ha, hb⟩ | ⟨n3, m3, s3, c3, w3, ha, hb⟩
    ·
     refine qR rfl <| qL rfl rfl rfl rfl ta37 rfl <| qM rfl rfl rfl ?_
     refine wOps_op rfl (op_call rfl rfl rfl co31 ((all_at_ ho ha _).mono ?_))
     rintro _ _ ⟨rfl, rfl⟩
     refine qM rfl rfl rfl <| qO rfl <| op_extract rfl rfl rfl <| qO rfl <| op_extract rfl rfl rfl <| qO rfl <| op_alloc' rfl zm29 rfl rfl <| qO rfl <| op_store' rfl rfl rfl rfl sz29 rfl rfl (Nat.le_of_ble_eq_true rfl) rfl <| qA rfl rfl rfl <| qN <| mwp_seq <| qR rfl <| qL rfl rfl rfl rfl ta37 rfl <| qM rfl rfl rfl ?_
     refine wOps_op rfl (op_call rfl rfl rfl co31 (((all_at_ hom hb _).sub (.cons (.refl _) (.cons (.view _ _ _) .nil))).mono ?_))
     rintro _ _ ⟨rfl, rfl⟩
     refine qM rfl rfl rfl <| qO rfl <| op_extract rfl rfl rfl <| qO rfl <| op_extract rfl rfl rfl <| qO rfl <| op_alloc' rfl zm29 rfl rfl <| qO rfl <| op_store' rfl rfl rfl rfl sz29 rfl rfl (Nat.le_of_ble_eq_true rfl) rfl <| qA rfl rfl rfl <| qN <| mwp_seq <| mwp_seq <| qR rfl <| qM rfl rfl rfl <| qO rfl <| op_makeInterface rfl rfl Tryz.underlying62 (by simp) ?_
     refine wOps_op rfl (op_call rfl rfl rfl co32 ((errIs_spec 14 _).mono ?_))
     rintro _ _ ⟨rfl, rfl⟩
     refine qM rfl rfl rfl <| qS rfl <| qS rfl <| qS rfl <| qP rfl rfl rfl rfl <| qN <| mwp_cond_t rfl (rfl) <| mwp_seq <| qR rfl <| qM rfl rfl rfl <| qO rfl <| op_makeInterface rfl rfl Tryz.underlying62 (by simp) ?_
     refine wOps_op rfl (op_call rfl rfl rfl co32 ((errIs_spec 14 _).mono ?_))
     rintro _ _ ⟨rfl, rfl⟩
     refine qM rfl rfl rfl <| qM rfl rfl rfl <| qO rfl <| op_makeInterface rfl rfl Tryz.underlying62 (by simp) ?_
     refine wOps_op rfl (op_call rfl rfl rfl co32 ((errIs_spec 14 _).mono ?_))
     rintro _ _ ⟨rfl, rfl⟩
     refine qP rfl rfl rfl rfl <| qM rfl rfl rfl <| qS rfl <| qS rfl <| qS rfl <| qS rfl <| qS rfl <| qS rfl <| qP rfl rfl rfl rfl <| qA rfl rfl rfl <| qN <| mwp_ret ?_
     exact ret_tmp (.inr rfl) Tryz.results9 rfl (.of_eq (rfl)) (.bool _) ⟨rfl, rfl⟩
    ·
     refine qR rfl <| qL rfl rfl rfl rfl ta37 rfl <| qM rfl rfl rfl ?_
     refine wOps_op rfl (op_call rfl rfl rfl co31 ((all_at_ ho ha _).mono ?_))
     rintro _ _ ⟨rfl, rfl⟩
     refine qM rfl rfl rfl <| qO rfl <| op_extract rfl rfl rfl <| qO rfl <| op_extract rfl rfl rfl <| qO rfl <| op_alloc' rfl zm29 rfl rfl <| qO rfl <| op_store' rfl rfl rfl rfl sz29 rfl rfl (Nat.le_of_ble_eq_true rfl) rfl <| qA rfl rfl rfl <| qN <| mwp_seq <| qR rfl <| qL rfl rfl rfl rfl ta37 rfl <| qM rfl rfl rfl ?_
     refine wOps_op rfl (op_call rfl rfl rfl co31 (((all_at_ hom hb _).sub (.cons (.refl _) (.cons (.view _ _ _) .nil))).mono ?_))
     rintro _ _ ⟨rfl, rfl⟩
     refine qM rfl rfl rfl <| qO rfl <| op_extract rfl rfl rfl <| qO rfl <| op_extract rfl rfl rfl <| qO rfl <| op_alloc' rfl zm29 rfl rfl <| qO rfl <| op_store' rfl rfl rfl rfl sz29 rfl rfl (Nat.le_of_ble_eq_true rfl) rfl <| qA rfl rfl rfl <| qN <| mwp_seq <| mwp_seq <| qR rfl <| qM rfl rfl rfl <| qO rfl <| op_makeInterface rfl rfl Tryz.underlying62 (by simp) ?_
     refine wOps_op rfl (op_call rfl rfl rfl co32 ((errIs_other 13 14 (by decide) _).mono ?_))
     rintro _ _ ⟨rfl, rfl⟩
     refine qM rfl rfl rfl <| qM rfl rfl rfl <| qO rfl <| op_makeInterface rfl rfl Tryz.underlying62 (by simp) ?_
     refine wOps_op rfl (op_call rfl rfl rfl co32 ((errIs_other 13 14 (by decide) _).mono ?_))
     rintro _ _ ⟨rfl, rfl⟩
     refine qP rfl rfl rfl rfl <| qN <| mwp_cond_f rfl (rfl) <| mwp_skip <| mwp_seq <| qR rfl <| qM rfl rfl rfl <| qO rfl <| op_ifnil rfl Tryz.underlying32 rfl rfl (.inr ⟨rfl, rfl⟩) <| qM rfl rfl rfl <| qS rfl <| qS rfl <| qP rfl rfl rfl rfl <| qM rfl rfl rfl <| qS rfl <| qS rfl <| qS rfl <| qP rfl rfl rfl rfl <| qA rfl rfl rfl <| qN <| mwp_ret ?_
     exact ret_tmp (.inr rfl) Tryz.results9 rfl (.of_eq (rfl)) (.bool _) ⟨rfl, rfl⟩
    ·
     refine qR rfl <| qL rfl rfl rfl rfl ta37 rfl <| qM rfl rfl rfl ?_
     refine wOps_op rfl (op_call rfl rfl rfl co31 ((all_at_ ho ha _).mono ?_))
     rintro _ _ ⟨rfl, rfl⟩
     refine qM rfl rfl rfl <| qO rfl <| op_extract rfl rfl rfl <| qO rfl <| op_extract rfl rfl rfl <| qO rfl <| op_alloc' rfl zm29 rfl rfl <| qO rfl <| op_store' rfl rfl rfl rfl sz29 rfl rfl (Nat.le_of_ble_eq_true rfl) rfl <| qA rfl rfl rfl <| qN <| mwp_seq <| qR rfl <| qL rfl rfl rfl rfl ta37 rfl <| qM rfl rfl rfl ?_
     refine wOps_op rfl (op_call rfl rfl rfl co31 (((all_at_ hom hb _).sub (.cons (.refl _) (.cons (.view _ _ _) .nil))).mono ?_))
     rintro _ _ ⟨rfl, rfl⟩
     refine qM rfl rfl rfl <| qO rfl <| op_extract rfl rfl rfl <| qO rfl <| op_extract rfl rfl rfl <| qO rfl <| op_alloc' rfl zm29 rfl rfl <| qO rfl <| op_store' rfl rfl rfl rfl sz29 rfl rfl (Nat.le_of_ble_eq_true rfl) rfl <| qA rfl rfl rfl <| qN <| mwp_seq <| mwp_seq <| qR rfl <| qM rfl rfl rfl <| qO rfl <| op_makeInterface rfl rfl Tryz.underlying62 (by simp) ?_
     refine wOps_op rfl (op_call rfl rfl rfl co32 ((errIs_other 13 14 (by decide) _).mono ?_))
     rintro _ _ ⟨rfl, rfl⟩
     refine qM rfl rfl rfl <| qM rfl rfl rfl <| qO rfl <| op_makeInterface rfl rfl Tryz.underlying62 (by simp) ?_
     refine wOps_op rfl (op_call rfl rfl rfl co32 ((errIs_spec 14 _).mono ?_))
     rintro _ _ ⟨rfl, rfl⟩
     refine qP rfl rfl rfl rfl <| qN <| mwp_cond_t rfl (rfl) <| mwp_seq <| qR rfl <| qM rfl rfl rfl <| qO rfl <| op_makeInterface rfl rfl Tryz.underlying62 (by simp) ?_
     refine wOps_op rfl (op_call rfl rfl rfl co32 ((errIs_other 13 14 (by decide) _).mono ?_))
     rintro _ _ ⟨rfl, rfl⟩
     refine qM rfl rfl rfl <| qS rfl <| qS rfl <| qS rfl <| qP rfl rfl rfl rfl <| qM rfl rfl rfl <| qM rfl rfl rfl <| qO rfl <| op_ifnil rfl Tryz.underlying32 rfl rfl (.inr ⟨rfl, rfl⟩) <| qM rfl rfl rfl <| qM rfl rfl rfl <| qO rfl <| op_ifnil rfl Tryz.underlying32 rfl rfl (.inr ⟨rfl, rfl⟩) <| qP rfl rfl rfl rfl <| qP rfl rfl rfl rfl <| qA rfl rfl rfl <| qN <| mwp_ret ?_
     exact ret_tmp (.inr rfl) Tryz.results9 rfl (.of_eq (rfl)) (.bool _) ⟨rfl, rfl⟩
    ·
     refine qR rfl <| qL rfl rfl rfl rfl ta37 rfl <| qM rfl rfl rfl ?_
     refine wOps_op rfl (op_call rfl rfl rfl co31 ((all_at_ ho ha _).mono ?_))
     rintro _ _ ⟨rfl, rfl⟩
     refine qM rfl rfl rfl <| qO rfl <| op_extract rfl rfl rfl <| qO rfl <| op_extract rfl rfl rfl <| qO rfl <| op_alloc' rfl zm29 rfl rfl <| qO rfl <| op_store' rfl rfl rfl rfl sz29 rfl rfl (Nat.le_of_ble_eq_true rfl) rfl <| qA rfl rfl rfl <| qN <| mwp_seq <| qR rfl <| qL rfl rfl rfl rfl ta37 rfl <| qM rfl rfl rfl ?_
     refine wOps_op rfl (op_call rfl rfl rfl co31 (((all_at_ hom hb _).sub (.cons (.refl _) (.cons (.view _ _ _) .nil))).mono ?_))
     rintro _ _ ⟨rfl, rfl⟩
     refine qM rfl rfl rfl <| qO rfl <| op_extract rfl rfl rfl <| qO rfl <| op_extract rfl rfl rfl <| qO rfl <| op_alloc' rfl zm29 rfl rfl <| qO rfl <| op_store' rfl rfl rfl rfl sz29 rfl rfl (Nat.le_of_ble_eq_true rfl) rfl <| qA rfl rfl rfl <| qN <| mwp_seq <| mwp_seq <| qR rfl <| qM rfl rfl rfl <| qO rfl <| op_makeInterface rfl rfl Tryz.underlying62 (by simp) ?_
     refine wOps_op rfl (op_call rfl rfl rfl co32 ((errIs_spec 14 _).mono ?_))
     rintro _ _ ⟨rfl, rfl⟩
     refine qM rfl rfl rfl <| qS rfl <| qS rfl <| qS rfl <| qP rfl rfl rfl rfl <| qN <| mwp_cond_t rfl (rfl) <| mwp_seq <| qR rfl <| qM rfl rfl rfl <| qO rfl <| op_makeInterface rfl rfl Tryz.underlying62 (by simp) ?_
     refine wOps_op rfl (op_call rfl rfl rfl co32 ((errIs_spec 14 _).mono ?_))
     rintro _ _ ⟨rfl, rfl⟩
     refine qM rfl rfl rfl <| qM rfl rfl rfl <| qO rfl <| op_makeInterface rfl rfl Tryz.underlying62 (by simp) ?_
     refine wOps_op rfl (op_call rfl rfl rfl co32 ((errIs_other 13 14 (by decide) _).mono ?_))
     rintro _ _ ⟨rfl, rfl⟩
     refine qP rfl rfl rfl rfl <| qM rfl rfl rfl <| qM rfl rfl rfl <| qO rfl <| op_ifnil rfl Tryz.underlying32 rfl rfl (.inr ⟨rfl, rfl⟩) <| qM rfl rfl rfl <| qM rfl rfl rfl <| qO rfl <| op_ifnil rfl Tryz.underlying32 rfl rfl (.inr ⟨rfl, rfl⟩) <| qP rfl rfl rfl rfl <| qP rfl rfl rfl rfl <| qA rfl rfl rfl <| qN <| mwp_ret ?_
     exact ret_tmp (.inr rfl) Tryz.results9 rfl (.of_eq (rfl)) (.bool _) ⟨rfl, rfl⟩
    ·
     refine qR rfl <| qL rfl rfl rfl rfl ta37 rfl <| qM rfl rfl rfl ?_
     refine wOps_op rfl (op_call rfl rfl rfl co31 ((all_at_ ho ha _).mono ?_))
     rintro _ _ ⟨rfl, rfl⟩
     refine qM rfl rfl rfl <| qO rfl <| op_extract rfl rfl rfl <| qO rfl <| op_extract rfl rfl rfl <| qO rfl <| op_alloc' rfl zm29 rfl rfl <| qO rfl <| op_store' rfl rfl rfl rfl sz29 rfl rfl (Nat.le_of_ble_eq_true rfl) rfl <| qA rfl rfl rfl <| qN <| mwp_seq <| qR rfl <| qL rfl rfl rfl rfl ta37 rfl <| qM rfl rfl rfl ?_
     refine wOps_op rfl (op_call rfl rfl rfl co31 (((all_at_ hom hb _).sub (.cons (.refl _) (.cons (.view _ _ _) .nil))).mono ?_))
     rintro _ _ ⟨rfl, rfl⟩
     refine qM rfl rfl rfl <| qO rfl <| op_extract rfl rfl rfl <| qO rfl <| op_extract rfl rfl rfl <| qO rfl <| op_alloc' rfl zm29 rfl rfl <| qO rfl <| op_store' rfl rfl rfl rfl sz29 rfl rfl (Nat.le_of_ble_eq_true rfl) rfl <| qA rfl rfl rfl <| qN <| mwp_seq <| mwp_seq <| qR rfl <| qM rfl rfl rfl <| qO rfl <| op_makeInterface rfl rfl Tryz.underlying62 (by simp) ?_
     refine wOps_op rfl (op_call rfl rfl rfl co32 ((errIs_other 13 14 (by decide) _).mono ?_))
     rintro _ _ ⟨rfl, rfl⟩
     refine qM rfl rfl rfl <| qM rfl rfl rfl <| qO rfl <| op_makeInterface rfl rfl Tryz.underlying62 (by simp) ?_
     refine wOps_op rfl (op_call rfl rfl rfl co32 ((errIs_none 14 _).mono ?_))
     rintro _ _ ⟨rfl, rfl⟩
     refine qP rfl rfl rfl rfl <| qN <| mwp_cond_f rfl (rfl) <| mwp_skip <| mwp_seq <| qR rfl <| qM rfl rfl rfl <| qO rfl <| op_ifnil rfl Tryz.underlying32 rfl rfl (.inr ⟨rfl, rfl⟩) <| qM rfl rfl rfl <| qS rfl <| qS rfl <| qP rfl rfl rfl rfl <| qM rfl rfl rfl <| qS rfl <| qS rfl <| qS rfl <| qP rfl rfl rfl rfl <| qA rfl rfl rfl <| qN <| mwp_ret ?_
     exact ret_tmp (.inr rfl) Tryz.results9 rfl (.of_eq (rfl)) (.bool _) ⟨rfl, rfl⟩
    ·
     refine qR rfl <| qL rfl rfl rfl rfl ta37 rfl <| qM rfl rfl rfl ?_
     refine wOps_op rfl (op_call rfl rfl rfl co31 ((all_at_ ho ha _).mono ?_))
     rintro _ _ ⟨rfl, rfl⟩
     refine qM rfl rfl rfl <| qO rfl <| op_extract rfl rfl rfl <| qO rfl <| op_extract rfl rfl rfl <| qO rfl <| op_alloc' rfl zm29 rfl rfl <| qO rfl <| op_store' rfl rfl rfl rfl sz29 rfl rfl (Nat.le_of_ble_eq_true rfl) rfl <| qA rfl rfl rfl <| qN <| mwp_seq <| qR rfl <| qL rfl rfl rfl rfl ta37 rfl <| qM rfl rfl rfl ?_
     refine wOps_op rfl (op_call rfl rfl rfl co31 (((all_at_ hom hb _).sub (.cons (.refl _) (.cons (.view _ _ _) .nil))).mono ?_))
     rintro _ _ ⟨rfl, rfl⟩
     refine qM rfl rfl rfl <| qO rfl <| op_extract rfl rfl rfl <| qO rfl <| op_extract rfl rfl rfl <| qO rfl <| op_alloc' rfl zm29 rfl rfl <| qO rfl <| op_store' rfl rfl rfl rfl sz29 rfl rfl (Nat.le_of_ble_eq_true rfl) rfl <| qA rfl rfl rfl <| qN <| mwp_seq <| mwp_seq <| qR rfl <| qM rfl rfl rfl <| qO rfl <| op_makeInterface rfl rfl Tryz.underlying62 (by simp) ?_
     refine wOps_op rfl (op_call rfl rfl rfl co32 ((errIs_none 14 _).mono ?_))
     rintro _ _ ⟨rfl, rfl⟩
     refine qM rfl rfl rfl <| qM rfl rfl rfl <| qO rfl <| op_makeInterface rfl rfl Tryz.underlying62 (by simp) ?_
     refine wOps_op rfl (op_call rfl rfl rfl co32 ((errIs_other 13 14 (by decide) _).mono ?_))
     rintro _ _ ⟨rfl, rfl⟩
     refine qP rfl rfl rfl rfl <| qN <| mwp_cond_f rfl (rfl) <| mwp_skip <| mwp_seq <| qR rfl <| qM rfl rfl rfl <| qO rfl <| op_if0 rfl Tryz.underlying32 rfl rfl (.inr ⟨rfl, rfl⟩) <| qM rfl rfl rfl <| qM rfl rfl rfl <| qO rfl <| op_ifnil rfl Tryz.underlying32 rfl rfl (.inr ⟨rfl, rfl⟩) <| qP rfl rfl rfl rfl <| qM rfl rfl rfl <| qS rfl <| qS rfl <| qS rfl <| qP rfl rfl rfl rfl <| qA rfl rfl rfl <| qN <| mwp_ret ?_
     exact ret_tmp (.inr rfl) Tryz.results9 rfl (.of_eq (rfl)) (.bool _) ⟨rfl, rfl⟩
    ·
     refine qR rfl <| qL rfl rfl rfl rfl ta37 rfl <| qM rfl rfl rfl ?_
     refine wOps_op rfl (op_call rfl rfl rfl co31 ((all_at_ ho ha _).mono ?_))
     rintro _ _ ⟨rfl, rfl⟩
     refine qM rfl rfl rfl <| qO rfl <| op_extract rfl rfl rfl <| qO rfl <| op_extract rfl rfl rfl <| qO rfl <| op_alloc' rfl zm29 rfl rfl <| qO rfl <| op_store' rfl rfl rfl rfl sz29 rfl rfl (Nat.le_of_ble_eq_true rfl) rfl <| qA rfl rfl rfl <| qN <| mwp_seq <| qR rfl <| qL rfl rfl rfl rfl ta37 rfl <| qM rfl rfl rfl ?_
     refine wOps_op rfl (op_call rfl rfl rfl co31 (((all_at_ hom hb _).sub (.cons (.refl _) (.cons (.view _ _ _) .nil))).mono ?_))
     rintro _ _ ⟨rfl, rfl⟩
     refine qM rfl rfl rfl <| qO rfl <| op_extract rfl rfl rfl <| qO rfl <| op_extract rfl rfl rfl <| qO rfl <| op_alloc' rfl zm29 rfl rfl <| qO rfl <| op_store' rfl rfl rfl rfl sz29 rfl rfl (Nat.le_of_ble_eq_true rfl) rfl <| qA rfl rfl rfl <| qN <| mwp_seq <| mwp_seq <| qR rfl <| qM rfl rfl rfl <| qO rfl <| op_makeInterface rfl rfl Tryz.underlying62 (by simp) ?_
     refine wOps_op rfl (op_call rfl rfl rfl co32 ((errIs_none 14 _).mono ?_))
     rintro _ _ ⟨rfl, rfl⟩
     refine qM rfl rfl rfl <| qM rfl rfl rfl <| qO rfl <| op_makeInterface rfl rfl Tryz.underlying62 (by simp) ?_
     refine wOps_op rfl (op_call rfl rfl rfl co32 ((errIs_none 14 _).mono ?_))
     rintro _ _ ⟨rfl, rfl⟩
     refine qP rfl rfl rfl rfl <| qN <| mwp_cond_f rfl (rfl) <| mwp_skip <| mwp_seq <| qR rfl <| qM rfl rfl rfl <| qO rfl <| op_if0 rfl Tryz.underlying32 rfl rfl (.inr ⟨rfl, rfl⟩) <| qM rfl rfl rfl <| qM rfl rfl rfl <| qO rfl <| op_if0 rfl Tryz.underlying32 rfl rfl (.inr ⟨rfl, rfl⟩) <| qP rfl rfl rfl rfl <| qM rfl rfl rfl <| qL rfl rfl rfl rfl ta29 rfl <| qL rfl rfl rfl rfl ta29 rfl ?_
     refine wOps_op rfl (op_call rfl rfl rfl co26 ((rSame_spec (.mk n3 m3 s3 c3 w3) (.mk n3 m3 s3 c3 w3) _).mono ?_))
     rintro _ _ ⟨rfl, rfl⟩
     rw [decide_eq_true rfl]
     refine qP rfl rfl rfl rfl <| qA rfl rfl rfl <| qN <| mwp_ret ?_
     exact ret_tmp (.inr rfl) Tryz.results9 rfl (.of_eq (rfl)) (.bool _) ⟨rfl, rfl⟩
end Go.Proofs.YtlooahbfpmigfaaGreat
end
section
set_option linter.unusedVariables false
set_option linter.unusedSimpArgs false
namespace Go.MV
open Go Go.RowKit Go.ChangeShapes Go.WideShapes Go.Deep
def g0 (W : World) : Gh := { B := W.heap.size, w0 := W, st := fun b => match W.heap[b]? with | some (.cells c _ _) => c.size | _ => 0, bk := fun _ => none, lg := fun _ _ => none }
theorem rel0 (W : World) : Rel (g0 W) [] W := by
  refine ⟨.refl _ _, Nat.le_refl _, fun b hb => ?_, fun _ _ => rfl, fun _ _ _ => rfl, fun _ => none, ⟨fun id o h => (by simp at h), fun i j b h => (by cases h), fun id b h => (by cases h)⟩⟩
  show (match W.heap[b]? with | some (.cells c _ _) => c.size | _ => 0) = 0
  rw [Array.getElem?_eq_none hb]
theorem stab0 {W : World} {ad : Addr} {k : Nat} {v : Value} (h : W.cell? (ad.add k) = some v) (h1 : v.oneCell' = true) : Stab (g0 W) W ad k v := by
  refine ⟨?_, h, h1⟩
  have e := cell_spot h
  rw [e] at h
  show _ < (match W.heap[(ad.add k).block]? with | some (.cells c _ _) => c.size | _ => 0)
  unfold World.cell? at h
  split at h
  · rename_i c t f hc
    simp only [Option.isSome_none, Bool.false_eq_true, if_false] at h
    simp only at hc
    rw [hc]
    exact (Array.getElem?_eq_some_iff.1 h).1
  · cases h
def TyFs (T : TypeId → List MV → Prop) : List Field → List MV → Prop
  | [], l => l = []
  | f :: fs, l => ∃ a b, l = a ++ b ∧ T f.type a ∧ TyFs T fs b
def ElF (P : Program) (e : TypeId) (x : MV) : Prop := match P.underlying e with | some (.struct _) => x = .agg x.cells | _ => [x] = x.cells
def TyM (P : Program) : Nat → TypeId → List MV → Prop
  | 0, _, _ => False
  | n + 1, t, l =>
    match P.underlying t with
    | some (.int k) => ∃ v, l = [.int k v] ∧ (Lit.int k v).wf = true
    | some .bool => ∃ b, l = [.bool b]
    | some .string => ∃ s, l = [.str s] ∧ s.size ≤ maxLen
    | some (.slice e) => ∃ xs, l = [.lst none (P.cellsOf e) xs] ∧ ∀ x ∈ xs, x.cells.length = P.cellsOf e ∧ TyM P n e x.cells ∧ ElF P e x
    | some (.struct fs) => TyFs (TyM P n) fs.toList l
    | _ => False
def contig (P : Program) (size : Nat) : List Field → Nat → Bool
  | [], off => Nat.beq off size
  | f :: fs, off => Nat.beq f.offset off && contig P size fs (off + P.cellsOf f.type)
def okTypes (P : Program) (ts : List TypeId) : Bool :=
  ts.all fun t => match P.underlying t with
    | some (.int _) | some .bool | some .string => true
    | some (.slice e) => natMem e ts && (match P.underlying e with | some (.struct _) => true | _ => Nat.beq (P.cellsOf e) 1)
    | some (.struct fs) => fs.toList.all (fun f => natMem f.type ts) && contig P (P.cellsOf t) fs.toList 0
    | _ => false
theorem rds_of_fields {P : Program} {W : World} {T : TypeId → List MV → Prop} {cs : List Value} {size : Nat} (hlen : cs.length = size) : ∀ (fs : List Field) (off : Nat), contig P size fs off = true →
    (∀ f ∈ fs, ∃ l, Rds (g0 W) W l ((cs.drop f.offset).take (P.cellsOf f.type)) ∧ T f.type l ∧ l.length = P.cellsOf f.type ∧ ∀ y ∈ l, y.one = true) → ∃ l, Rds (g0 W) W l (cs.drop off) ∧ TyFs T fs l ∧ ∀ y ∈ l, y.one = true
  | [], off, hc, _ => by
    have := Nat.eq_of_beq_eq_true hc
    refine ⟨[], ?_, rfl, fun y hy => by cases hy⟩
    rw [List.drop_eq_nil_of_le (by omega)]
    exact .nil _ _
  | f :: fs, off, hc, h => by
    simp only [contig, Bool.and_eq_true] at hc
    have ho := Nat.eq_of_beq_eq_true hc.1
    obtain ⟨a, h1, h2, h3, h5⟩ := h f (List.mem_cons_self ..)
    obtain ⟨b, k1, k2, k3⟩ := rds_of_fields hlen fs _ hc.2 (fun f' hf' => h f' (List.mem_cons_of_mem _ hf'))
    refine ⟨a ++ b, ?_, ⟨a, b, rfl, h2, k2⟩, fun y hy => (List.mem_append.1 hy).elim (h5 y) (k3 y)⟩
    have e : cs.drop off = (cs.drop off).take (P.cellsOf f.type) ++ cs.drop (off + P.cellsOf f.type) := by
      rw [← List.drop_drop, List.take_append_drop]
    rw [e]
    rw [ho] at h1
    exact h1.append k1
theorem tyFs_mono {T T' : TypeId → List MV → Prop} (h : ∀ t l, T t l → T' t l) : ∀ (fs : List Field) (l : List MV), TyFs T fs l → TyFs T' fs l
  | [], l, hl => hl
  | f :: fs, l, ⟨a, b, e, h1, h2⟩ => ⟨a, b, e, h _ _ h1, tyFs_mono h fs b h2⟩
theorem tyM_succ {P : Program} : ∀ (n : Nat) (t : TypeId) (l : List MV), TyM P n t l → TyM P (n + 1) t l
  | 0, t, l, h => h.elim
  | n + 1, t, l, h => by
    unfold TyM at h ⊢
    split at h
    · rename_i k hu; exact h
    · rename_i hu; exact h
    · rename_i hu; exact h
    · rename_i e hu
      obtain ⟨xs, h1, h2⟩ := h
      exact ⟨xs, h1, fun x hx => ⟨(h2 x hx).1, tyM_succ n _ _ (h2 x hx).2.1, (h2 x hx).2.2⟩⟩
    · rename_i fs hu; exact tyFs_mono (tyM_succ n) _ _ h
    · exact h.elim
theorem tyM_le {P : Program} {n m : Nat} (h : n ≤ m) {t : TypeId} {l : List MV} (ht : TyM P n t l) : TyM P m t l := by
  obtain ⟨d, rfl⟩ := Nat.le.dest h
  induction d with
  | zero => exact ht
  | succ d ih => exact tyM_succ _ _ _ (ih (by omega))
section
variable {H : Type} {enc : TypeId × Value → H} {P : Program} {W : World} {base : Nat} {spare : Nat → Bool} {held : Bool}
theorem common_bound {α : Type} {p : Nat → α → Prop} (hm : ∀ n m a, n ≤ m → p n a → p m a) : ∀ (l : List α), (∀ a ∈ l, ∃ n, p n a) → ∃ n, ∀ a ∈ l, p n a
  | [], _ => ⟨0, fun a h => by cases h⟩
  | a :: l, h => by
    obtain ⟨n, hn⟩ := h a (List.mem_cons_self ..)
    obtain ⟨m, hm'⟩ := common_bound hm l (fun b hb => h b (List.mem_cons_of_mem _ hb))
    refine ⟨max n m, fun b hb => ?_⟩
    rcases List.mem_cons.1 hb with rfl | hb
    · exact hm _ _ _ (by omega) hn
    · exact hm _ _ _ (by omega) (hm' b hb)
theorem reads_gen {ts : List TypeId} (hok : okTypes P ts = true) : ∀ (n : Nat) (x : DataW H × List MemPlace) (fuel : Nat) (t : TypeId) (cs : List Value), SizeOf.sizeOf x.1 ≤ n → t ∈ ts → DataW.trod enc P W base spare held fuel t cs = some x →
    ∃ (l : List MV) (m : Nat), Rds (g0 W) W l cs ∧ TyM P m t l ∧ ∀ y ∈ l, y.one = true := by
  intro n
  induction n using Nat.strongRecOn with
  | _ n ih =>
  intro x fuel t cs hx ht h
  have hot : (match P.underlying t with
    | some (.int _) | some .bool | some .string => true
    | some (.slice e) => natMem e ts && (match P.underlying e with | some (.struct _) => true | _ => Nat.beq (P.cellsOf e) 1)
    | some (.struct fs) => fs.toList.all (fun f => natMem f.type ts) && contig P (P.cellsOf t) fs.toList 0
    | _ => false) = true := by
    simp only [okTypes, List.all_eq_true] at hok
    exact hok t ht
  split at hot
  · rename_i k hu
    obtain ⟨v, rfl, rfl, hwf⟩ := DataW.trod_int hu h
    refine ⟨[.int k v], 1, .cons (.int _ _) (.nil _ _), ?_, by simp [MV.one]⟩
    unfold TyM
    rw [hu]
    exact ⟨v, rfl, hwf⟩
  · rename_i hu
    obtain ⟨b, rfl, rfl⟩ := DataW.trod_bool hu h
    refine ⟨[.bool b], 1, .cons (.bool _) (.nil _ _), ?_, by simp [MV.one]⟩
    unfold TyM
    rw [hu]
    exact ⟨b, rfl⟩
  · rename_i hu
    obtain ⟨s, rfl, rfl, hs⟩ := DataW.trod_string hu h
    refine ⟨[.str s], 1, .cons (.str _) (.nil _ _), ?_, by simp [MV.one]⟩
    unfold TyM
    rw [hu]
    exact ⟨s, rfl, hs⟩
  · rename_i e hu
    simp only [Bool.and_eq_true] at hot
    have he : e ∈ ts := natMem_iff.1 hot.1
    rcases open_slice hu h with ⟨rfl, rfl⟩ | ⟨a, len, cap, m, n', D, Pl, rfl, hb, hl, hm, hmm, rfl, hi⟩
    · refine ⟨[.lst none (P.cellsOf e) []], 1, .cons (Sub.nil _ _ _ _ .lst0) (.nil _ _), ?_, by simp [MV.one]⟩
      unfold TyM
      rw [hu]
      exact ⟨[], rfl, fun x hx => by cases hx⟩
    · have hlm : len ≤ m := by rw [hmm]; split <;> omega
      have hel : ∀ i, i < len → ∃ (l : List MV) (k : Nat) (us : List Value), us.length = P.cellsOf e ∧ Rds (g0 W) W l us ∧ TyM P k e l ∧ (∀ y ∈ l, y.one = true) ∧ ∀ j, j < P.cellsOf e → W.cell? ((a.add (i * P.cellsOf e)).add j) = us[j]? := by
        intro i hil
        obtain ⟨cs', hc, ht'⟩ := hi i (by omega)
        obtain ⟨_, hlen, hcell⟩ := World.cells?_some hc
        have hsz : SizeOf.sizeOf (D i) < n := by
          have hmem : D i ∈ (List.range len).map D := List.mem_map.2 ⟨i, List.mem_range.2 hil, rfl⟩
          have := List.sizeOf_lt_of_mem hmem
          simp only [DataW.slice.sizeOf_spec] at hx
          omega
        obtain ⟨l, k, h1, h2, h3⟩ := ih _ hsz (D i, Pl i) n' e cs' (Nat.le_refl _) he ht'
        exact ⟨l, k, cs', hlen, h1, h2, h3, hcell⟩
      have hall : ∀ (N : Nat), N ≤ len → ∃ (xs : List MV) (us : List Value) (k : Nat), xs.length = N ∧ us.length = N * P.cellsOf e ∧ Rds (g0 W) W (flat xs) us ∧ (∀ y ∈ flat xs, y.one = true) ∧ (∀ x ∈ xs, x.cells.length = P.cellsOf e ∧ TyM P k e x.cells ∧ ElF P e x) ∧
          ∀ j, j < N * P.cellsOf e → W.cell? (a.add j) = us[j]? := by
        intro N
        induction N with
        | zero => exact fun _ => ⟨[], [], 0, rfl, by simp, .nil _ _, by simp [flat], by simp, by simp⟩
        | succ N ihN =>
          intro hN
          obtain ⟨xs, us, k, q1, q2, q3, q4, q5, q6⟩ := ihN (by omega)
          obtain ⟨l, k', us', r1, r2, r3, r4, r5⟩ := hel N (by omega)
          have hll : l.length = P.cellsOf e := by rw [← r2.1, r1]
          obtain ⟨y, hy1, hy2⟩ : ∃ y : MV, y.cells = l ∧ ElF P e y := by
            cases hue : P.underlying e with
            | none => 
              have hk1 : P.cellsOf e = 1 := by have := hot.2; rw [hue] at this; exact Nat.eq_of_beq_eq_true this
              match l, hll.trans hk1 with
              | [y], _ =>
                have := r4 y (List.mem_cons_self ..)
                simp only [ElF, hue]
                refine ⟨y, ?_, ?_⟩ <;> (cases y <;> first | rfl | (cases this; done))
            | some d =>
              cases d with
              | struct fs => exact ⟨.agg l, rfl, by simp only [ElF, hue]; rfl⟩
              | _ =>
                have hk1 : P.cellsOf e = 1 := by have := hot.2; rw [hue] at this; exact Nat.eq_of_beq_eq_true this
                match l, hll.trans hk1 with
                | [y], _ =>
                  have := r4 y (List.mem_cons_self ..)
                  simp only [ElF, hue]
                  refine ⟨y, ?_, ?_⟩ <;> (cases y <;> first | rfl | (cases this; done))
          refine ⟨xs ++ [y], us ++ us', max k k', by simp [q1], by rw [List.length_append, q2, r1, Nat.add_mul]; omega, ?_, ?_, ?_, ?_⟩
          · rw [flat_append]
            refine q3.append ?_
            simp only [flat, List.flatMap_cons, List.flatMap_nil, List.append_nil, hy1]
            exact r2
          · intro z hz
            rw [flat_append, List.mem_append] at hz
            rcases hz with hz | hz
            · exact q4 z hz
            · simp only [flat, List.flatMap_cons, List.flatMap_nil, List.append_nil, hy1] at hz
              exact r4 z hz
          · intro x hx
            rcases List.mem_append.1 hx with hx | hx
            · exact ⟨(q5 x hx).1, tyM_le (by omega) (q5 x hx).2.1, (q5 x hx).2.2⟩
            · simp at hx
              subst hx
              rw [hy1]
              exact ⟨hll, tyM_le (by omega) r3, hy2⟩
          · intro j hj
            rw [Nat.add_mul, Nat.one_mul] at hj
            by_cases hjl : j < N * P.cellsOf e
            · rw [List.getElem?_append_left (by omega)]
              exact q6 j hjl
            · rw [List.getElem?_append_right (by omega), q2, ← r5 (j - N * P.cellsOf e) (by omega), Go.MV.add_add]
              congr 2
              omega
      obtain ⟨xs, us, k, q1, q2, q3, q4, q5, q6⟩ := hall len (Nat.le_refl _)
      refine ⟨[.lst none (P.cellsOf e) xs], k + 1, .cons (.lst' q1 hl hm (fun x hx => (q5 x hx).1) q3 (fun j u hu => ⟨a, rfl, stab0 ?_ ?_⟩) (fun t ht => by cases ht)) (.nil _ _), ?_, by simp [MV.one]⟩
      · have hj : j < us.length := (List.getElem?_eq_some_iff.1 hu).1
        rw [q6 j (by omega)]
        exact hu
      · have hj : j < us.length := (List.getElem?_eq_some_iff.1 hu).1
        have hjf : j < (flat xs).length := by rw [← q3.1]; exact hj
        exact one_cell (q3.2 j _ u (List.getElem?_eq_getElem hjf) hu) (q4 _ (List.getElem_mem hjf))
      · unfold TyM
        rw [hu]
        exact ⟨xs, rfl, q5⟩
  · rename_i fs hu
    simp only [Bool.and_eq_true, List.all_eq_true] at hot
    obtain ⟨xs, n', rfl, rfl, hlen, hxl, hf⟩ := DataW.trod_struct hu h
    have hfld : ∀ f ∈ fs.toList, ∃ (k : Nat) (l : List MV), Rds (g0 W) W l ((cs.drop f.offset).take (P.cellsOf f.type)) ∧ TyM P k f.type l ∧ ∀ y ∈ l, y.one = true := by
      intro f hfm
      obtain ⟨i, hi⟩ := List.getElem?_of_mem hfm
      have hi' : fs[i]? = some f := by simpa using hi
      have hilt : i < xs.length := by rw [hxl]; exact (Array.getElem?_eq_some_iff.1 hi').1
      have htr := hf i f hi'
      rw [List.getElem?_eq_getElem hilt] at htr
      have hsz : SizeOf.sizeOf xs[i].1 < n := by
        have hmem : xs[i].1 ∈ xs.map (·.1) := List.mem_map.2 ⟨xs[i], List.getElem_mem hilt, rfl⟩
        have := List.sizeOf_lt_of_mem hmem
        simp only [DataW.agg.sizeOf_spec] at hx
        omega
      obtain ⟨l, k, h1, h2, h3⟩ := ih _ hsz xs[i] n' f.type _ (Nat.le_refl _) (natMem_iff.1 (hot.1 f hfm)) htr
      exact ⟨k, l, h1, h2, h3⟩
    obtain ⟨K, hK⟩ := common_bound (p := fun k (f : Field) => ∃ l : List MV, Rds (g0 W) W l ((cs.drop f.offset).take (P.cellsOf f.type)) ∧ TyM P k f.type l ∧ ∀ y ∈ l, y.one = true) (fun a b f hab ⟨l, h1, h2, h3⟩ => ⟨l, h1, tyM_le hab h2, h3⟩) fs.toList hfld
    have hcont := hot.2
    have hlens : ∀ (gs : List Field) (off : Nat), contig P (P.cellsOf t) gs off = true → off ≤ P.cellsOf t ∧ ∀ f ∈ gs, f.offset + P.cellsOf f.type ≤ P.cellsOf t := by
      intro gs
      induction gs with
      | nil => exact fun off hc => ⟨Nat.le_of_eq (Nat.eq_of_beq_eq_true hc), fun f hf => by cases hf⟩
      | cons f gs ihg =>
        intro off hc
        simp only [contig, Bool.and_eq_true] at hc
        have ho := Nat.eq_of_beq_eq_true hc.1
        obtain ⟨h1, h2⟩ := ihg _ hc.2
        refine ⟨by omega, fun f' hf' => ?_⟩
        rcases List.mem_cons.1 hf' with rfl | hf'
        · omega
        · exact h2 f' hf'
    obtain ⟨l, h1, h2, h3⟩ := rds_of_fields (P := P) (W := W) (T := TyM P K) hlen fs.toList 0 hcont (fun f hfm => by
      obtain ⟨l, h1, h2, h3⟩ := hK f hfm
      refine ⟨l, h1, h2, ?_, h3⟩
      have := (hlens _ _ hcont).2 f hfm
      rw [← h1.1, List.length_take, List.length_drop, hlen]
      omega)
    refine ⟨l, K + 1, by simpa using h1, ?_, h3⟩
    unfold TyM
    rw [hu]
    exact h2
  · cases hot
end
section
variable {H : Type} {enc : TypeId × Value → H} {P : Program} {W : World} {base b0 : Nat} {spare : Nat → Bool} {held : Bool} {r : Reach}
theorem arg_struct {ts : List TypeId} (hok : okTypes P ts = true) {t : TypeId} {fs : Array Field} (ht : t ∈ ts) (hu : P.underlying t = some (.struct fs)) {v : Value} {d : DataW H} {p : List MemPlace} (hv : Value.okWide P W r b0 t v) (h : DataW.Trod enc P W base spare held t v d p) :
    ∃ (l : List MV) (m : Nat), Rd (g0 W) W (.agg l) v ∧ TyM P m t l := by
  obtain ⟨cs, rfl, hsz⟩ := okWide_struct hu hv
  obtain ⟨fuel, hf⟩ := h
  obtain ⟨l, m, h1, h2, _⟩ := reads_gen hok _ _ _ _ _ (Nat.le_refl _) ht hf
  refine ⟨l, m, ?_, h2⟩
  have := Rd.agg' h1
  simpa [Value.cells] using this
theorem arg_one {ts : List TypeId} (hok : okTypes P ts = true) {t : TypeId} (ht : t ∈ ts) {v : Value} {d : DataW H} {p : List MemPlace} (hv : v.cells = #[v]) (h : DataW.Trod enc P W base spare held t v d p) :
    ∃ (l : List MV) (m : Nat), Rds (g0 W) W l [v] ∧ TyM P m t l := by
  obtain ⟨fuel, hf⟩ := h
  rw [hv] at hf
  obtain ⟨l, m, h1, h2, _⟩ := reads_gen hok _ _ _ _ _ (Nat.le_refl _) ht hf
  exact ⟨l, m, h1, h2⟩
end
theorem law_calls {P : Program} {f : FuncId} {xs : List MV} {W : World} {vs : List Value} (h : MCalls P f xs [] fun v σ' => v = .bool true ∧ σ' = []) (hr : Rds (g0 W) W xs vs) : Calls P f vs.toArray W fun e w' => e = .returned (.bool true) ∧ Below W.heap.size W w' := by
  refine (callsIn_wide.1 (h (g0 W) W vs (rel0 W) hr)).mono ?_
  rintro e w' ⟨v, rfl, x, σ', g', ⟨rfl, rfl⟩, hrel, hrd, hle⟩
  rw [hrd.inv_bool]
  have := hrel.below
  rw [hle.B, hle.w0] at this
  exact ⟨rfl, this⟩
end Go.MV
end
section
set_option linter.unusedVariables false
set_option linter.unusedSimpArgs false
set_option maxRecDepth 20000
namespace Go.Proofs.YtlooahbfpmigfaaGreat
open Go Go.MV
theorem tys_ok : okTypes Tryz.prog [37, 35, 3] = true := by kernel_rfl
theorem cells_sch : Tryz.prog.cellsOf 37 = 2 := by kernel_rfl
theorem tyM_int {n : Nat} {l : List MV} (h : TyM Tryz.prog n 3 l) : ∃ v, l = [.int .i64 v] ∧ (Lit.int .i64 v).wf = true := by
  cases n with
  | zero => exact h.elim
  | succ n => unfold TyM at h; rw [Tryz.underlying3] at h; exact h
theorem tyM_sch (n : Nat) : ∀ (l : List MV), TyM Tryz.prog n 37 l → ∃ s, MV.agg l = encS s := by
  induction n using Nat.strongRecOn with
  | _ n ih =>
  intro l h
  match n, ih, h with
  | n + 1, ih, h =>
    unfold TyM at h
    rw [Tryz.underlying37] at h
    obtain ⟨a, _, rfl, h1, b, _, rfl, h2, rfl⟩ := h
    obtain ⟨k, rfl, _⟩ := tyM_int h1
    match n, ih, h2 with
    | n + 1, ih, h2 =>
      unfold TyM at h2
      rw [Tryz.underlying35] at h2
      obtain ⟨xs, rfl, hx⟩ := h2
      have hss : ∀ ys : List MV, (∀ x ∈ ys, x.cells.length = Tryz.prog.cellsOf 37 ∧ TyM Tryz.prog n 37 x.cells ∧ ElF Tryz.prog 37 x) → ∃ ss, ys = encSs ss := by
        intro ys
        induction ys with
        | nil => exact fun _ => ⟨[], by simp [encSs]⟩
        | cons y ys ihy =>
          intro hy
          obtain ⟨ss, rfl⟩ := ihy (fun x hx => hy x (List.mem_cons_of_mem _ hx))
          obtain ⟨h1, h2, h3⟩ := hy y (List.mem_cons_self ..)
          obtain ⟨s, hs⟩ := ih n (by omega) _ h2
          refine ⟨s :: ss, ?_⟩
          simp only [ElF, Tryz.underlying37] at h3
          rw [h3, hs]; simp [encSs]
      obtain ⟨ss, rfl⟩ := hss xs hx
      exact ⟨.mk k ss, by rw [cells_sch]; simp [encS]⟩
theorem arg_sch {H : Type} {enc : TypeId × Value → H} {W : World} {base b0 : Nat} {spare : Nat → Bool} {held : Bool} {r : Reach} {v : Value} {d : DataW H} {p : List MemPlace} (hv : Value.okWide Tryz.prog W r b0 37 v) (h : DataW.Trod enc Tryz.prog W base spare held 37 v d p) :
    ∃ s, Rd (g0 W) W (encS s) v := by
  obtain ⟨l, m, h1, h2⟩ := arg_struct tys_ok (by simp) Tryz.underlying37 hv h
  obtain ⟨s, hs⟩ := tyM_sch _ _ h2
  exact ⟨s, hs ▸ h1⟩
end Go.Proofs.YtlooahbfpmigfaaGreat
end
section
set_option linter.unusedVariables false
set_option linter.unusedSimpArgs false
namespace Go.MV
open Go Go.RowKit Go.WideShapes Go.ChangeShapes
section
variable {H : Type} {enc : TypeId × Value → H} {P : Program} {W : World} {base b0 : Nat} {spare : Nat → Bool} {held : Bool} {r : Reach} {ts : List TypeId} {t : TypeId} {v : Value} {d : DataW H} {p : List MemPlace}
theorem tyM_intK {k : IntKind} (hu : P.underlying t = some (.int k)) {n : Nat} {l : List MV} (h : TyM P n t l) : ∃ v, l = [.int k v] ∧ (Lit.int k v).wf = true := by
  cases n with
  | zero => exact h.elim
  | succ n => unfold TyM at h; rw [hu] at h; exact h
theorem tyM_str (hu : P.underlying t = some .string) {n : Nat} {l : List MV} (h : TyM P n t l) : ∃ s : Bs, l = [.str (bs s)] ∧ s.length ≤ maxLen := by
  cases n with
  | zero => exact h.elim
  | succ n =>
    unfold TyM at h; rw [hu] at h
    obtain ⟨s, rfl, hs⟩ := h
    exact ⟨strL s, by rw [bs_strL], by unfold strL; rw [Array.length_toList]; exact hs⟩
theorem tyM_slice {e : TypeId} (hu : P.underlying t = some (.slice e)) {n : Nat} {l : List MV} (h : TyM P n t l) : ∃ xs m, m + 1 = n ∧ l = [.lst none (P.cellsOf e) xs] ∧ ∀ x ∈ xs, x.cells.length = P.cellsOf e ∧ TyM P m e x.cells ∧ ElF P e x := by
  cases n with
  | zero => exact h.elim
  | succ n =>
    unfold TyM at h; rw [hu] at h
    obtain ⟨xs, h1, h2⟩ := h
    exact ⟨xs, n, rfl, h1, h2⟩
theorem tyM_struct {fs : Array Field} (hu : P.underlying t = some (.struct fs)) {n : Nat} {l : List MV} (h : TyM P n t l) : ∃ m, m + 1 = n ∧ TyFs (TyM P m) fs.toList l := by
  cases n with
  | zero => exact h.elim
  | succ n => unfold TyM at h; rw [hu] at h; exact ⟨n, rfl, h⟩
theorem all_enc {α : Type} {enc : α → MV} {q : α → Prop} : ∀ {xs : List MV}, (∀ x ∈ xs, ∃ a, x = enc a ∧ q a) → ∃ l : List α, xs = l.map enc ∧ ∀ a ∈ l, q a
  | [], _ => ⟨[], rfl, fun a h => by cases h⟩
  | x :: xs, h => by
    obtain ⟨l, rfl, hl⟩ := all_enc (fun y hy => h y (List.mem_cons_of_mem _ hy))
    obtain ⟨a, rfl, ha⟩ := h x (List.mem_cons_self ..)
    refine ⟨a :: l, rfl, fun b hb => ?_⟩
    rcases List.mem_cons.1 hb with rfl | hb
    · exact ha
    · exact hl b hb
theorem rd_of_rds {g : Gh} {w : World} {m : MV} {v : Value} (h : Rds g w [m] [v]) : Rd g w m v := h.2 0 _ _ rfl rfl
theorem arg_int {k : IntKind} (hok : okTypes P ts = true) (ht : t ∈ ts) (hu : P.underlying t = some (.int k)) (hv : Value.okWide P W r b0 t v) (h : DataW.Trod enc P W base spare held t v d p) : ∃ n, Rd (g0 W) W (.int k n) v ∧ (Lit.int k n).wf = true := by
  obtain ⟨n, rfl⟩ := okWide_int hu hv
  obtain ⟨l, m, h1, h2⟩ := arg_one hok ht rfl h
  obtain ⟨n', rfl, hw⟩ := tyM_intK hu h2
  exact ⟨n', rd_of_rds h1, hw⟩
theorem arg_slice {e : TypeId} {α : Type} {en : α → MV} {q : α → Prop} (hok : okTypes P ts = true) (ht : t ∈ ts) (hu : P.underlying t = some (.slice e)) (hel : ∀ m x, x.cells.length = P.cellsOf e → TyM P m e x.cells → ElF P e x → ∃ a, x = en a ∧ q a)
    (hv : Value.okWide P W r b0 t v) (h : DataW.Trod enc P W base spare held t v d p) : ∃ l : List α, Rd (g0 W) W (.lst none (P.cellsOf e) (l.map en)) v ∧ (∀ a ∈ l, q a) ∧ l.length ≤ maxLen := by
  obtain ⟨a, n, c, rfl⟩ := okWide_slice hu hv
  obtain ⟨l, m, h1, h2⟩ := arg_one hok ht rfl h
  obtain ⟨xs, m, _, rfl, hx⟩ := tyM_slice hu h2
  obtain ⟨l, rfl, hl⟩ := all_enc (fun x hx' => hel m x (hx x hx').1 (hx x hx').2.1 (hx x hx').2.2)
  refine ⟨l, rd_of_rds h1, hl, ?_⟩
  obtain ⟨_, _, _, _, h3, h4, _⟩ := (rd_of_rds h1).inv_lst
  have := Nat.le_trans h3 h4
  rwa [List.length_map] at this
theorem el_str (hu : P.underlying t = some .string) (m : Nat) (x : MV) (h : TyM P m t x.cells) (he : ElF P t x) : ∃ a : Bs, x = .str (bs a) ∧ a.length ≤ maxLen := by
  obtain ⟨n, hn', hw⟩ := tyM_str hu h
  simp only [ElF, hu] at he
  rw [hn'] at he
  injection he with he
  exact ⟨n, he, hw⟩
theorem wf_u8 {n : Int} (h : (Lit.int .u8 n).wf = true) : ∃ m : Nat, n = (m : Int) ∧ m ≤ 255 := by
  simp [Lit.wf, IntKind.min, IntKind.max, IntKind.signed, IntKind.bits] at h
  exact ⟨n.toNat, by omega, by omega⟩
theorem wf_u64 {n : Int} (h : (Lit.int .u64 n).wf = true) : ∃ m : Nat, n = (m : Int) ∧ m < 18446744073709551616 := by
  simp [Lit.wf, IntKind.min, IntKind.max, IntKind.signed, IntKind.bits] at h
  exact ⟨n.toNat, by omega, by omega⟩
end
end Go.MV
end
section
set_option linter.unusedVariables false
set_option linter.unusedSimpArgs false
set_option maxRecDepth 20000
namespace Go.Proofs.YtlooahbfpmigfaaGreat
open Go Go.MV
theorem cells_tick : Tryz.prog.cellsOf 72 = 2 := by kernel_rfl
theorem tyM_tick {m : Nat} {l : List MV} (h : TyM Tryz.prog m 72 l) : ∃ a : Tk, MV.agg l = encT a ∧ (0 ≤ a.2 ∧ a.2 < 18446744073709551616) := by
  obtain ⟨m', _, h⟩ := tyM_struct Tryz.underlying72 h
  obtain ⟨a, _, rfl, h1, b, _, rfl, h2, rfl⟩ := h
  obtain ⟨w, rfl, _⟩ := tyM_intK Tryz.underlying3 h1
  obtain ⟨n, rfl, hw⟩ := tyM_intK Tryz.underlying24 h2
  obtain ⟨k, rfl, hk⟩ := wf_u64 hw
  exact ⟨(w, k), rfl, by dsimp only; omega, by dsimp only; omega⟩
theorem el_tick (m : Nat) (x : MV) (_ : x.cells.length = Tryz.prog.cellsOf 72) (h : TyM Tryz.prog m 72 x.cells) (he : ElF Tryz.prog 72 x) : ∃ a : Tk, x = encT a ∧ (0 ≤ a.2 ∧ a.2 < 18446744073709551616) := by
  obtain ⟨a, e, ha⟩ := tyM_tick h
  simp only [ElF, Tryz.underlying72] at he
  exact ⟨a, he.trans e, ha⟩
end Go.Proofs.YtlooahbfpmigfaaGreat
end
section
set_option linter.unusedVariables false
set_option linter.unusedSimpArgs false
set_option maxRecDepth 100000
namespace Go.Proofs.YtlooahbfpmigfaaGreat
open Go Go.MV
theorem cellsV_str : Tryz.prog.cellsOf 9 = 1 := by kernel_rfl
theorem cellsV_clk : Tryz.prog.cellsOf 44 = 1 := by kernel_rfl
theorem cellsV_val : Tryz.prog.cellsOf 29 = 5 := by kernel_rfl
theorem tyM_val (n : Nat) : ∀ (l : List MV), TyM Tryz.prog n 29 l → ∃ x : Val, MV.agg l = encV x ∧ okV x := by
  induction n using Nat.strongRecOn with
  | _ n ih =>
  intro l h
  obtain ⟨n', rfl, h⟩ := tyM_struct Tryz.underlying29 h
  obtain ⟨a, _, rfl, h1, b, _, rfl, h2, c, _, rfl, h3, d, _, rfl, h4, e, _, rfl, h5, rfl⟩ := h
  obtain ⟨v1, rfl, w1⟩ := tyM_intK Tryz.underlying24 h1
  obtain ⟨v2, rfl, w2⟩ := tyM_intK Tryz.underlying24 h2
  obtain ⟨k1, rfl, hk1⟩ := wf_u64 w1
  obtain ⟨k2, rfl, hk2⟩ := wf_u64 w2
  obtain ⟨xs, m3, hm3, rfl, hx3⟩ := tyM_slice Tryz.underlying25 h3
  obtain ⟨ss, rfl, _⟩ := all_enc (enc := encX) (q := fun _ => True) (xs := xs) (fun x hx => by
    obtain ⟨_, g2, g3⟩ := hx3 x hx
    obtain ⟨a, e1, _⟩ := el_str Tryz.underlying9 m3 x g2 g3
    exact ⟨a, e1, trivial⟩)
  obtain ⟨ys, m4, hm4, rfl, hx4⟩ := tyM_slice Tryz.underlying26 h4
  obtain ⟨cs, rfl, hcs⟩ := all_enc (enc := encC) (q := fun c : List Tk => ∀ t ∈ c, okTk t) (xs := ys) (fun x hx => by
    obtain ⟨_, g2, g3⟩ := hx4 x hx
    obtain ⟨zs, m5, hm5, e5, hx5⟩ := tyM_slice Tryz.underlying44 g2
    simp only [ElF, Tryz.underlying44] at g3
    rw [e5] at g3
    injection g3 with g3 _
    obtain ⟨c, rfl, hc⟩ := all_enc (enc := encT) (q := okTk) (xs := zs) (fun z hz => by
      obtain ⟨f1, f2, f3⟩ := hx5 z hz
      exact el_tick m5 z f1 f2 f3)
    refine ⟨c, ?_, hc⟩
    rw [g3, cells_tick]
    rfl)
  obtain ⟨us, m6, hm6, rfl, hx6⟩ := tyM_slice Tryz.underlying27 h5
  obtain ⟨vs, rfl, hvs⟩ := all_enc (enc := encV) (q := okV) (xs := us) (fun x hx => by
    obtain ⟨_, g2, g3⟩ := hx6 x hx
    obtain ⟨v, e1, hv⟩ := ih m6 (by omega) _ g2
    simp only [ElF, Tryz.underlying29] at g3
    exact ⟨v, g3.trans e1, hv⟩)
  refine ⟨.mk k1 k2 ss cs vs, ?_, ?_⟩
  · rw [cellsV_str, cellsV_clk, cellsV_val, encV, encVs_eq]
    rfl
  · simp only [okV]
    exact ⟨by omega, by omega, hcs, okVs_iff.2 hvs⟩
end Go.Proofs.YtlooahbfpmigfaaGreat
end
section
set_option linter.unusedVariables false
set_option linter.unusedSimpArgs false
set_option maxRecDepth 100000
namespace Go.Proofs.YtlooahbfpmigfaaGreat
open Go Go.MV
theorem el_val (m : Nat) (x : MV) (_ : x.cells.length = Tryz.prog.cellsOf 29) (h : TyM Tryz.prog m 29 x.cells) (he : ElF Tryz.prog 29 x) : ∃ a : Val, x = encV a ∧ okV a := by
  obtain ⟨a, e, ha⟩ := tyM_val _ _ h
  simp only [ElF, Tryz.underlying29] at he
  exact ⟨a, he.trans e, ha⟩
theorem arg_vals {ts : List TypeId} (hok : okTypes Tryz.prog ts = true) (ht : 27 ∈ ts) {H : Type} {enc : TypeId × Value → H} {W : World} {base b0 : Nat} {spare : Nat → Bool} {held : Bool} {r : Reach} {v : Value} {d : DataW H} {p : List MemPlace} (hv : Value.okWide Tryz.prog W r b0 27 v) (h : DataW.Trod enc Tryz.prog W base spare held 27 v d p) :
    ∃ c : List Val, Rd (g0 W) W (.lst none 5 (encVs c)) v ∧ ∀ x ∈ c, okV x := by
  obtain ⟨c, h1, h2, h3⟩ := arg_slice (en := encV) hok ht Tryz.underlying27 el_val hv h
  rw [cellsV_val, ← encVs_eq] at h1
  exact ⟨c, h1, h2⟩
end Go.Proofs.YtlooahbfpmigfaaGreat
end
