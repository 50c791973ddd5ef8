/-
  Texts on which the proof of JoinMaps leans: part 5.
-/
import Derived.Test.YtihpnfpdocnniaaGreatJoinMapsD
import Derived.Laws.MakeOwn
import Derived.WalkKit
import Derived.LaidEql
import Derived.RowKitTokens
import Derived.Deep.Slices
import Derived.ChangeSame
import Derived.ProofKit
import Derived.OpenShut
import Derived.ChangeOld
import Derived.SizedLaws
import Derived.Carry
section
set_option linter.unusedVariables false
set_option linter.unusedSimpArgs false
set_option maxRecDepth 20000
set_option maxHeartbeats 400000
namespace Go.Proofs.YtihpnfpdocnniaaGreat
open Go Go.MV
theorem max_if (a b : Int) : (if b > a then b else a) = max a b := by split <;> omega
theorem isV3 {ins : List Sch} {n m : Int} {s : List Bs} {c : List (List Tk)} {w : List Val} (h : isVF (.mk 3 ins) (.mk n m s c w) = true) : s.length ≤ 40 := by
 rw [isVF_mk 3] at h; simp [isRowF] at h; omega
theorem isV4 {t : Sch} {n m : Int} {s : List Bs} {c : List (List Tk)} {w : List Val} (h : isVF (.mk 4 [t]) (.mk n m s c w) = true) : s.length ≤ 40 ∧ s.length = w.length ∧ ∀ x ∈ w, isVF t x = true := by
 rw [isVF_mk 4] at h
 simp only [Int.reduceEq, if_false, if_true, isVL, List.headD_cons, Bool.and_eq_true, decide_eq_true_eq, List.all_eq_true, isRowF] at h
 exact ⟨h.2.1.1.1.1, h.2.1.2, fun x hx => (h.2.2 x hx).1⟩
theorem isV5 {t u : Sch} {n m : Int} {s : List Bs} {c : List (List Tk)} {w : List Val} (h : isVF (.mk 5 [t, u]) (.mk n m s c w) = true) : ∃ x y, w = [x, y] ∧ isVF t x = true ∧ isVF u y = true := by
 rw [isVF_mk 5] at h
 match w, h with
 | [], h => simp at h
 | [_], h => simp at h
 | [x, y], h => exact ⟨x, y, rfl, by simp [isVL] at h; exact h.2⟩
 | _ :: _ :: _ :: _, h => simp at h
theorem isV7 {ins : List Sch} {n m : Int} {s : List Bs} {c : List (List Tk)} {w : List Val} (h : isVF (.mk 7 ins) (.mk n m s c w) = true) : ∀ x ∈ c, x.length ≤ 40 := by
 rw [isVF_mk 7] at h
 match c, h with
 | [], _ => simp
 | [x], h => simp [isClockF] at h; simp; omega
 | _ :: _ :: _, h => simp at h
theorem isV8 {t : Sch} {n m : Int} {s : List Bs} {c : List (List Tk)} {w : List Val} (h : isVF (.mk 8 [t]) (.mk n m s c w) = true) : c.length ≤ 40 ∧ c.length = w.length ∧ (∀ x ∈ c, x.length ≤ 40) ∧ ∀ x ∈ w, isVF t x = true := by
 rw [isVF_mk 8] at h
 simp only [Int.reduceEq, if_false, isVL, List.headD_cons, Bool.and_eq_true, decide_eq_true_eq, List.all_eq_true, isCauseF, isClockF] at h
 refine ⟨h.1.2, h.2.1.1, fun x hx => ?_, fun x hx => h.2.2 x hx⟩
 have := h.2.1.2.1 x hx
 omega
theorem both_spec (d : Nat) : ∀ (t : Sch), isF d t = true → ∀ (a b : Val), isVF t a = true → isVF t b = true → ∀ S : MS, MCalls Tryz.prog 23 [encS t, encV a, encV b] S fun v σ' => v = encO (bothF t a b) ∧ σ' = S := by
 induction d with
 | zero => intro s h; simp [isF] at h
 | succ d ih =>
 rintro ⟨k, ins⟩ hd ⟨n1, m1, s1, c1, w1⟩ ⟨n2, m2, s2, c2, w2⟩ ha hb S
 rw [isF] at hd
 simp only [Bool.and_eq_true, List.all_eq_true, beq_iff_eq] at hd
 rcases k8_of hd.1 with rfl | rfl | rfl | rfl | rfl | rfl | rfl | rfl
 ·
  have hB : bothB 1 (bothL ins) (.mk n1 m1 s1 c1 w1) (.mk n2 m2 s2 c2 w2) = some (.mk (max n1 n2) 0 [] [] []) := rfl
  refine mcalls_body Tryz.func23 rfl Tryz.ntmps23 (Nat.le_of_ble_eq_true rfl) ?_
  refine mwp_seq <| qR rfl <| qB rfl rfl rfl rfl rfl <| qB rfl rfl rfl rfl rfl <| qB rfl rfl rfl rfl rfl <| qO rfl <| op_alloc' rfl zm28 rfl rfl <| qA rfl rfl rfl <| qN <| mwp_seq <| mwp_seq <| qR rfl <| qF rfl rfl rfl fo35_0 <| qL rfl rfl rfl rfl ta3 rfl <| qN <| mwp_block <| mwp_seq <| mwp_seq <| qR rfl <| qC rfl rfl rfl rfl rfl <| qA rfl rfl rfl <| qN ?_
  refine mwp_cond_t rfl (rfl) <| mwp_skip <| mwp_cond_t rfl (rfl) <| qR rfl <| qF rfl rfl rfl fo28_0 <| qL rfl rfl rfl rfl ta22 rfl <| qF rfl rfl rfl fo28_0 <| qL rfl rfl rfl rfl ta22 rfl <| qO rfl <| op_max2' rfl rfl rfl (max_if n1 n2) <| qF rfl rfl rfl fo28_0 <| qO rfl <| op_store' rfl rfl rfl rfl sz22 rfl rfl (Nat.le_of_ble_eq_true rfl) rfl <| qN <| mwp_seq <| mwp_seq <| qR rfl <| qM rfl rfl rfl <| qO rfl <| op_if0 rfl Tryz.underlying30 rfl rfl (.inl ⟨rfl, rfl⟩) <| qM rfl rfl rfl <| qO rfl <| op_viewTo (y := encV (.mk (max n1 n2) 0 [] [] [])) (op_load' rfl rfl rfl ta28 rfl ⟨rfl, rfl⟩) (.agg (.cons (.refl _) (.cons (.refl _) (.cons (.nil 1) (.cons (.nil 1) (.cons (.nil 5) .nil)))))) ?_
  refine wOps_op rfl (op_call rfl rfl rfl co41 ((isLarge_spec (max n1 n2) 0 [] [] [] _).mono ?_))
  rintro _ _ ⟨rfl, rfl⟩
  refine qP rfl rfl rfl rfl <| qN ?_
  refine mwp_cond_split rfl (fun h69 => ?_) (fun h69 => ?_)
  ·
   refine qR rfl <| qO rfl <| op_makeInterface rfl rfl Tryz.underlying38 (by simp) ?_
   refine qA rfl rfl rfl <| qN <| mwp_seq <| mwp_seq <| qR rfl <| qM rfl rfl rfl <| qO rfl <| op_ifnil rfl Tryz.underlying30 rfl rfl (.inr ⟨rfl, rfl⟩) <| qN <| mwp_cond_t rfl (rfl) <| mwp_seq <| qR rfl <| qO rfl <| op_build rfl Tryz.underlying28 zm28 .nil (by kernel_rfl) ?_
   refine qM rfl rfl rfl <| qO rfl <| op_store' rfl rfl rfl rfl sz28 rfl rfl (Nat.le_of_ble_eq_true rfl) rfl <| qA rfl rfl rfl <| qN <| mwp_ret ?_
   exact ret_cell_tmp (.inr rfl) Tryz.results23 rfl rfl ta28 rfl (.agg (.cons (.refl _) (.cons (.refl _) (.cons (.nil 1) (.cons (.nil 1) (.cons (.nil 5) .nil)))))) (cl_encV _ (noV)) rfl (.refl _) (.iface _ _ (.int _ _)) ⟨by rw [bothF_mk, hB, cap_t h69]; rfl, rfl⟩
  ·
   refine mwp_skip <| mwp_seq <| mwp_seq <| qR rfl <| qM rfl rfl rfl <| qO rfl <| op_if0 rfl Tryz.underlying30 rfl rfl (.inr ⟨rfl, rfl⟩) <| qN <| mwp_cond_f rfl (rfl) <| mwp_skip <| mwp_seq <| qR rfl <| qO rfl <| op_viewTo (y := encV (.mk (max n1 n2) 0 [] [] [])) (op_load' rfl rfl rfl ta28 rfl ⟨rfl, rfl⟩) (.agg (.cons (.refl _) (.cons (.refl _) (.cons (.nil 1) (.cons (.nil 1) (.cons (.nil 5) .nil)))))) <| qO rfl <| op_store' rfl rfl rfl rfl sz28 rfl rfl (Nat.le_of_ble_eq_true rfl) rfl <| qA rfl rfl rfl <| qN <| mwp_ret ?_
   exact ret_cell_tmp (.inr rfl) Tryz.results23 rfl rfl ta28 rfl (.refl _) (cl_encV _ (.mk (max n1 n2) 0 [] [] [])) rfl (.refl _) (.iface0) ⟨by rw [bothF_mk, hB, cap_f h69]; rfl, rfl⟩
 ·
  have hB : bothB 2 (bothL ins) (.mk n1 m1 s1 c1 w1) (.mk n2 m2 s2 c2 w2) = some (.mk (max n1 n2) 0 [] [] []) := rfl
  refine mcalls_body Tryz.func23 rfl Tryz.ntmps23 (Nat.le_of_ble_eq_true rfl) ?_
  refine mwp_seq <| qR rfl <| qB rfl rfl rfl rfl rfl <| qB rfl rfl rfl rfl rfl <| qB rfl rfl rfl rfl rfl <| qO rfl <| op_alloc' rfl zm28 rfl rfl <| qA rfl rfl rfl <| qN <| mwp_seq <| mwp_seq <| qR rfl <| qF rfl rfl rfl fo35_0 <| qL rfl rfl rfl rfl ta3 rfl <| qN <| mwp_block <| mwp_seq <| mwp_seq <| qR rfl <| qC rfl rfl rfl rfl rfl <| qA rfl rfl rfl <| qN ?_
  refine mwp_cond_f rfl (rfl) <| qR rfl <| qC rfl rfl rfl rfl rfl <| qA rfl rfl rfl <| qN <| mwp_cond_t rfl (rfl) <| qR rfl <| qF rfl rfl rfl fo28_0 <| qL rfl rfl rfl rfl ta22 rfl <| qF rfl rfl rfl fo28_0 <| qL rfl rfl rfl rfl ta22 rfl <| qO rfl <| op_max2' rfl rfl rfl (max_if n1 n2) <| qF rfl rfl rfl fo28_0 <| qO rfl <| op_store' rfl rfl rfl rfl sz22 rfl rfl (Nat.le_of_ble_eq_true rfl) rfl <| qN <| mwp_seq <| mwp_seq <| qR rfl <| qM rfl rfl rfl <| qO rfl <| op_if0 rfl Tryz.underlying30 rfl rfl (.inl ⟨rfl, rfl⟩) ?_
  refine qM rfl rfl rfl <| qO rfl <| op_viewTo (y := encV (.mk (max n1 n2) 0 [] [] [])) (op_load' rfl rfl rfl ta28 rfl ⟨rfl, rfl⟩) (.agg (.cons (.refl _) (.cons (.refl _) (.cons (.nil 1) (.cons (.nil 1) (.cons (.nil 5) .nil)))))) ?_
  refine wOps_op rfl (op_call rfl rfl rfl co41 ((isLarge_spec (max n1 n2) 0 [] [] [] _).mono ?_))
  rintro _ _ ⟨rfl, rfl⟩
  refine qP rfl rfl rfl rfl <| qN ?_
  refine mwp_cond_split rfl (fun h69 => ?_) (fun h69 => ?_)
  ·
   refine qR rfl <| qO rfl <| op_makeInterface rfl rfl Tryz.underlying38 (by simp) ?_
   refine qA rfl rfl rfl <| qN <| mwp_seq <| mwp_seq <| qR rfl <| qM rfl rfl rfl <| qO rfl <| op_ifnil rfl Tryz.underlying30 rfl rfl (.inr ⟨rfl, rfl⟩) <| qN <| mwp_cond_t rfl (rfl) <| mwp_seq <| qR rfl <| qO rfl <| op_build rfl Tryz.underlying28 zm28 .nil (by kernel_rfl) ?_
   refine qM rfl rfl rfl <| qO rfl <| op_store' rfl rfl rfl rfl sz28 rfl rfl (Nat.le_of_ble_eq_true rfl) rfl <| qA rfl rfl rfl <| qN <| mwp_ret ?_
   exact ret_cell_tmp (.inr rfl) Tryz.results23 rfl rfl ta28 rfl (.agg (.cons (.refl _) (.cons (.refl _) (.cons (.nil 1) (.cons (.nil 1) (.cons (.nil 5) .nil)))))) (cl_encV _ (noV)) rfl (.refl _) (.iface _ _ (.int _ _)) ⟨by rw [bothF_mk, hB, cap_t h69]; rfl, rfl⟩
  ·
   refine mwp_skip <| mwp_seq <| mwp_seq <| qR rfl <| qM rfl rfl rfl <| qO rfl <| op_if0 rfl Tryz.underlying30 rfl rfl (.inr ⟨rfl, rfl⟩) <| qN <| mwp_cond_f rfl (rfl) <| mwp_skip <| mwp_seq <| qR rfl <| qO rfl <| op_viewTo (y := encV (.mk (max n1 n2) 0 [] [] [])) (op_load' rfl rfl rfl ta28 rfl ⟨rfl, rfl⟩) (.agg (.cons (.refl _) (.cons (.refl _) (.cons (.nil 1) (.cons (.nil 1) (.cons (.nil 5) .nil)))))) <| qO rfl <| op_store' rfl rfl rfl rfl sz28 rfl rfl (Nat.le_of_ble_eq_true rfl) rfl <| qA rfl rfl rfl <| qN <| mwp_ret ?_
   exact ret_cell_tmp (.inr rfl) Tryz.results23 rfl rfl ta28 rfl (.refl _) (cl_encV _ (.mk (max n1 n2) 0 [] [] [])) rfl (.refl _) (.iface0) ⟨by rw [bothF_mk, hB, cap_f h69]; rfl, rfl⟩
 ·
  have b1 := isV3 ha
  have b2 := isV3 hb
  have hB : bothB 3 (bothL ins) (.mk n1 m1 s1 c1 w1) (.mk n2 m2 s2 c2 w2) = some (.mk 0 0 (bothX s1 s2) [] []) := rfl
  refine mcalls_body Tryz.func23 rfl Tryz.ntmps23 (Nat.le_of_ble_eq_true rfl) ?_
  refine mwp_seq <| qR rfl <| qB rfl rfl rfl rfl rfl <| qB rfl rfl rfl rfl rfl <| qB rfl rfl rfl rfl rfl <| qO rfl <| op_alloc' rfl zm28 rfl rfl <| qA rfl rfl rfl <| qN <| mwp_seq <| mwp_seq <| qR rfl <| qF rfl rfl rfl fo35_0 <| qL rfl rfl rfl rfl ta3 rfl <| qN <| mwp_block <| mwp_seq <| mwp_seq <| qR rfl <| qC rfl rfl rfl rfl rfl <| qA rfl rfl rfl <| qN ?_
  refine mwp_cond_f rfl (rfl) <| qR rfl <| qC rfl rfl rfl rfl rfl <| qA rfl rfl rfl <| qN <| mwp_cond_f rfl (rfl) <| mwp_seq <| qR rfl <| qC rfl rfl rfl rfl rfl <| qA rfl rfl rfl <| qN <| mwp_cond_t rfl (rfl) <| qR rfl <| qF rfl rfl rfl fo28_2 <| qL rfl rfl rfl rfl ta24 rfl <| qF rfl rfl rfl fo28_2 <| qL rfl rfl rfl rfl ta24 rfl ?_
  refine wOps_op rfl (op_call rfl rfl rfl co35 ((rowsBoth_spec s1 s2 (by omega) _).mono ?_))
  rintro _ _ ⟨rfl, rfl⟩
  refine qF rfl rfl rfl fo28_2 <| qO rfl <| op_store' rfl rfl rfl rfl sz24 rfl rfl (Nat.le_of_ble_eq_true rfl) rfl <| qN <| mwp_seq <| mwp_seq <| qR rfl <| qM rfl rfl rfl <| qO rfl <| op_if0 rfl Tryz.underlying30 rfl rfl (.inl ⟨rfl, rfl⟩) <| qM rfl rfl rfl <| qO rfl <| op_viewTo (y := encV (.mk 0 0 (bothX s1 s2) [] [])) (op_load' rfl rfl rfl ta28 rfl ⟨rfl, rfl⟩) (.agg (.cons (.refl _) (.cons (.refl _) (.cons (.refl _) (.cons (.nil 1) (.cons (.nil 5) .nil)))))) ?_
  refine wOps_op rfl (op_call rfl rfl rfl co41 ((isLarge_spec 0 0 (bothX s1 s2) [] [] _).mono ?_))
  rintro _ _ ⟨rfl, rfl⟩
  refine qP rfl rfl rfl rfl <| qN ?_
  refine mwp_cond_split rfl (fun h69 => ?_) (fun h69 => ?_)
  ·
   refine qR rfl <| qO rfl <| op_makeInterface rfl rfl Tryz.underlying38 (by simp) ?_
   refine qA rfl rfl rfl <| qN <| mwp_seq <| mwp_seq <| qR rfl <| qM rfl rfl rfl <| qO rfl <| op_ifnil rfl Tryz.underlying30 rfl rfl (.inr ⟨rfl, rfl⟩) <| qN <| mwp_cond_t rfl (rfl) <| mwp_seq <| qR rfl <| qO rfl <| op_build rfl Tryz.underlying28 zm28 .nil (by kernel_rfl) ?_
   refine qM rfl rfl rfl <| qO rfl <| op_store' rfl rfl rfl rfl sz28 rfl rfl (Nat.le_of_ble_eq_true rfl) rfl <| qA rfl rfl rfl <| qN <| mwp_ret ?_
   exact ret_cell_tmp (.inr rfl) Tryz.results23 rfl rfl ta28 rfl (.agg (.cons (.refl _) (.cons (.refl _) (.cons (.nil 1) (.cons (.nil 1) (.cons (.nil 5) .nil)))))) (cl_encV _ (noV)) rfl (.refl _) (.iface _ _ (.int _ _)) ⟨by rw [bothF_mk, hB, cap_t h69]; rfl, rfl⟩
  ·
   refine mwp_skip <| mwp_seq <| mwp_seq <| qR rfl <| qM rfl rfl rfl <| qO rfl <| op_if0 rfl Tryz.underlying30 rfl rfl (.inr ⟨rfl, rfl⟩) <| qN <| mwp_cond_f rfl (rfl) <| mwp_skip <| mwp_seq <| qR rfl <| qO rfl <| op_viewTo (y := encV (.mk 0 0 (bothX s1 s2) [] [])) (op_load' rfl rfl rfl ta28 rfl ⟨rfl, rfl⟩) (.agg (.cons (.refl _) (.cons (.refl _) (.cons (.refl _) (.cons (.nil 1) (.cons (.nil 5) .nil)))))) <| qO rfl <| op_store' rfl rfl rfl rfl sz28 rfl rfl (Nat.le_of_ble_eq_true rfl) rfl <| qA rfl rfl rfl <| qN <| mwp_ret ?_
   exact ret_cell_tmp (.inr rfl) Tryz.results23 rfl rfl ta28 rfl (.refl _) (cl_encV _ (.mk 0 0 (bothX s1 s2) [] [])) rfl (.refl _) (.iface0) ⟨by rw [bothF_mk, hB, cap_f h69]; rfl, rfl⟩
 ·
  obtain ⟨⟨k1, i1⟩, rfl⟩ := one_ins hd.1 (by decide)
  have ih1 := ih (.mk k1 i1) (hd.2 _ (by simp))
  obtain ⟨p1, p2, p3⟩ := isV4 ha
  obtain ⟨q1, q2, q3⟩ := isV4 hb
  have hof := maps_spec 4 k1 i1 [] (bothF (.mk k1 i1)) n1 m1 s1 c1 w1 n2 m2 s2 c2 w2 p2 q2 p1 q1 (fun x hx y hy => ih1 x y (p3 x hx) (q3 y hy))
  have hBq : bothB 4 (bothL [.mk k1 i1]) (.mk n1 m1 s1 c1 w1) (.mk n2 m2 s2 c2 w2) = mapsF (bothF (.mk k1 i1)) (.mk n1 m1 s1 c1 w1) (.mk n2 m2 s2 c2 w2) := rfl
  rcases hO : mapsF (bothF (.mk k1 i1)) (.mk n1 m1 s1 c1 w1) (.mk n2 m2 s2 c2 w2) with _ | ⟨⟨n3, m3, s3, c3, w3⟩⟩ <;> rw [hO] at hof hBq
  ·
   refine mcalls_body Tryz.func23 rfl Tryz.ntmps23 (Nat.le_of_ble_eq_true rfl) ?_
   refine mwp_seq <| qR rfl <| qB rfl rfl rfl rfl rfl <| qB rfl rfl rfl rfl rfl <| qB rfl rfl rfl rfl rfl <| qO rfl <| op_alloc' rfl zm28 rfl rfl <| qA rfl rfl rfl <| qN <| mwp_seq <| mwp_seq <| qR rfl <| qF rfl rfl rfl fo35_0 <| qL rfl rfl rfl rfl ta3 rfl <| qN <| mwp_block <| mwp_seq <| mwp_seq <| qR rfl <| qC rfl rfl rfl rfl rfl <| qA rfl rfl rfl <| qN ?_
   refine mwp_cond_f rfl (rfl) <| qR rfl <| qC rfl rfl rfl rfl rfl <| qA rfl rfl rfl <| qN <| mwp_cond_f rfl (rfl) <| mwp_seq <| qR rfl <| qC rfl rfl rfl rfl rfl <| qA rfl rfl rfl <| qN <| mwp_cond_f rfl (rfl) <| mwp_seq <| qR rfl <| qC rfl rfl rfl rfl rfl <| qA rfl rfl rfl <| qN <| mwp_cond_t rfl (rfl) <| qR rfl <| qL rfl rfl rfl rfl ta35 rfl <| qL rfl rfl rfl rfl ta28 rfl <| qL rfl rfl rfl rfl ta28 rfl ?_
   refine wOps_op rfl (op_call rfl rfl rfl co36 ((hof _).mono ?_))
   rintro _ _ ⟨rfl, rfl⟩
   refine qM rfl rfl rfl <| qO rfl <| op_extract rfl rfl rfl <| qO rfl <| op_extract rfl rfl rfl <| qO rfl <| op_store' rfl rfl rfl rfl sz28 rfl rfl (Nat.le_of_ble_eq_true rfl) rfl <| qA rfl rfl rfl <| qN <| mwp_seq <| mwp_seq <| qR rfl <| qM rfl rfl rfl <| qO rfl <| op_ifnil rfl Tryz.underlying30 rfl rfl (.inl ⟨rfl, rfl⟩) <| qM rfl rfl rfl <| qS rfl <| qS rfl <| qP rfl rfl rfl rfl <| qN <| mwp_cond_f rfl (rfl) <| mwp_skip <| mwp_seq <| mwp_seq <| qR rfl ?_
   refine qM rfl rfl rfl <| qO rfl <| op_ifnil rfl Tryz.underlying30 rfl rfl (.inr ⟨rfl, rfl⟩) <| qN <| mwp_cond_t rfl (rfl) <| mwp_seq <| qR rfl <| qO rfl <| op_build rfl Tryz.underlying28 zm28 .nil (by kernel_rfl) ?_
   refine qM rfl rfl rfl <| qO rfl <| op_store' rfl rfl rfl rfl sz28 rfl rfl (Nat.le_of_ble_eq_true rfl) rfl <| qA rfl rfl rfl <| qN <| mwp_ret ?_
   exact ret_cell_tmp (.inr rfl) Tryz.results23 rfl rfl ta28 rfl (.agg (.cons (.refl _) (.cons (.refl _) (.cons (.nil 1) (.cons (.nil 1) (.cons (.nil 5) .nil)))))) (cl_encV _ (noV)) rfl (.refl _) (.iface _ _ (.int _ _)) ⟨by rw [bothF_mk, hBq]; rfl, rfl⟩
  ·
   refine mcalls_body Tryz.func23 rfl Tryz.ntmps23 (Nat.le_of_ble_eq_true rfl) ?_
   refine mwp_seq <| qR rfl <| qB rfl rfl rfl rfl rfl <| qB rfl rfl rfl rfl rfl <| qB rfl rfl rfl rfl rfl <| qO rfl <| op_alloc' rfl zm28 rfl rfl <| qA rfl rfl rfl <| qN <| mwp_seq <| mwp_seq <| qR rfl <| qF rfl rfl rfl fo35_0 <| qL rfl rfl rfl rfl ta3 rfl <| qN <| mwp_block <| mwp_seq <| mwp_seq <| qR rfl <| qC rfl rfl rfl rfl rfl <| qA rfl rfl rfl <| qN ?_
   refine mwp_cond_f rfl (rfl) <| qR rfl <| qC rfl rfl rfl rfl rfl <| qA rfl rfl rfl <| qN <| mwp_cond_f rfl (rfl) <| mwp_seq <| qR rfl <| qC rfl rfl rfl rfl rfl <| qA rfl rfl rfl <| qN <| mwp_cond_f rfl (rfl) <| mwp_seq <| qR rfl <| qC rfl rfl rfl rfl rfl <| qA rfl rfl rfl <| qN <| mwp_cond_t rfl (rfl) <| qR rfl <| qL rfl rfl rfl rfl ta35 rfl <| qL rfl rfl rfl rfl ta28 rfl <| qL rfl rfl rfl rfl ta28 rfl ?_
   refine wOps_op rfl (op_call rfl rfl rfl co36 ((hof _).mono ?_))
   rintro _ _ ⟨rfl, rfl⟩
   refine qM rfl rfl rfl <| qO rfl <| op_extract rfl rfl rfl <| qO rfl <| op_extract rfl rfl rfl <| qO rfl <| op_store' rfl rfl rfl rfl sz28 rfl rfl (Nat.le_of_ble_eq_true rfl) rfl <| qA rfl rfl rfl <| qN <| mwp_seq <| mwp_seq <| qR rfl <| qM rfl rfl rfl <| qO rfl <| op_if0 rfl Tryz.underlying30 rfl rfl (.inl ⟨rfl, rfl⟩) <| qM rfl rfl rfl <| qL rfl rfl rfl rfl ta28 rfl ?_
   refine wOps_op rfl (op_call rfl rfl rfl co41 ((isLarge_spec n3 m3 s3 c3 w3 _).mono ?_))
   rintro _ _ ⟨rfl, rfl⟩
   refine qP rfl rfl rfl rfl <| qN ?_
   refine mwp_cond_split rfl (fun h69 => ?_) (fun h69 => ?_)
   ·
    refine qR rfl <| qO rfl <| op_makeInterface rfl rfl Tryz.underlying38 (by simp) ?_
    refine qA rfl rfl rfl <| qN <| mwp_seq <| mwp_seq <| qR rfl <| qM rfl rfl rfl <| qO rfl <| op_ifnil rfl Tryz.underlying30 rfl rfl (.inr ⟨rfl, rfl⟩) <| qN <| mwp_cond_t rfl (rfl) <| mwp_seq <| qR rfl <| qO rfl <| op_build rfl Tryz.underlying28 zm28 .nil (by kernel_rfl) ?_
    refine qM rfl rfl rfl <| qO rfl <| op_store' rfl rfl rfl rfl sz28 rfl rfl (Nat.le_of_ble_eq_true rfl) rfl <| qA rfl rfl rfl <| qN <| mwp_ret ?_
    exact ret_cell_tmp (.inr rfl) Tryz.results23 rfl rfl ta28 rfl (.agg (.cons (.refl _) (.cons (.refl _) (.cons (.nil 1) (.cons (.nil 1) (.cons (.nil 5) .nil)))))) (cl_encV _ (noV)) rfl (.refl _) (.iface _ _ (.int _ _)) ⟨by rw [bothF_mk, hBq, cap_t h69]; rfl, rfl⟩
   ·
    refine mwp_skip <| mwp_seq <| mwp_seq <| qR rfl <| qM rfl rfl rfl <| qO rfl <| op_if0 rfl Tryz.underlying30 rfl rfl (.inr ⟨rfl, rfl⟩) <| qN <| mwp_cond_f rfl (rfl) <| mwp_skip <| mwp_seq <| qR rfl <| qL rfl rfl rfl rfl ta28 rfl <| qO rfl <| op_store' rfl rfl rfl rfl sz28 rfl rfl (Nat.le_of_ble_eq_true rfl) rfl <| qA rfl rfl rfl <| qN <| mwp_ret ?_
    exact ret_cell_tmp (.inr rfl) Tryz.results23 rfl rfl ta28 rfl (.refl _) (cl_encV _ (.mk n3 m3 s3 c3 w3)) rfl (.refl _) (.iface0) ⟨by rw [bothF_mk, hBq, cap_f h69]; rfl, rfl⟩
 ·
  obtain ⟨⟨k1, i1⟩, ⟨k2, i2⟩, rfl⟩ := two_of hd.1
  have ih1 := ih (.mk k1 i1) (hd.2 _ (by simp))
  have ih2 := ih (.mk k2 i2) (hd.2 _ (by simp))
  obtain ⟨x1, y1, rfl, p1, p2⟩ := isV5 ha
  obtain ⟨x2, y2, rfl, q1, q2⟩ := isV5 hb
  have hof := pairs_specJ 5 [.mk k1 i1, .mk k2 i2] (by simp) bothF n1 m1 s1 c1 [x1, y1] n2 m2 s2 c2 [x2, y2] rfl rfl (fun i s x y hs hx hy => by
   match i, hs, hx, hy with
   | 0, hs, hx, hy => simp at hs hx hy; subst hs hx hy; exact ih1 _ _ p1 q1
   | 1, hs, hx, hy => simp at hs hx hy; subst hs hx hy; exact ih2 _ _ p2 q2
   | i + 2, hs, _, _ => simp at hs)
  have hBq : bothB 5 (bothL [.mk k1 i1, .mk k2 i2]) (.mk n1 m1 s1 c1 [x1, y1]) (.mk n2 m2 s2 c2 [x2, y2]) = pairF2 ([.mk k1 i1, .mk k2 i2].map bothF) (.mk n1 m1 s1 c1 [x1, y1]) (.mk n2 m2 s2 c2 [x2, y2]) := by rw [bothL_eq]; rfl
  rcases hO : pairF2 ([.mk k1 i1, .mk k2 i2].map bothF) (.mk n1 m1 s1 c1 [x1, y1]) (.mk n2 m2 s2 c2 [x2, y2]) with _ | ⟨⟨n3, m3, s3, c3, w3⟩⟩ <;> rw [hO] at hof hBq
  ·
   refine mcalls_body Tryz.func23 rfl Tryz.ntmps23 (Nat.le_of_ble_eq_true rfl) ?_
   refine mwp_seq <| qR rfl <| qB rfl rfl rfl rfl rfl <| qB rfl rfl rfl rfl rfl <| qB rfl rfl rfl rfl rfl <| qO rfl <| op_alloc' rfl zm28 rfl rfl <| qA rfl rfl rfl <| qN <| mwp_seq <| mwp_seq <| qR rfl <| qF rfl rfl rfl fo35_0 <| qL rfl rfl rfl rfl ta3 rfl <| qN <| mwp_block <| mwp_seq <| mwp_seq <| qR rfl <| qC rfl rfl rfl rfl rfl <| qA rfl rfl rfl <| qN ?_
   refine mwp_cond_f rfl (rfl) <| qR rfl <| qC rfl rfl rfl rfl rfl <| qA rfl rfl rfl <| qN <| mwp_cond_f rfl (rfl) <| mwp_seq <| qR rfl <| qC rfl rfl rfl rfl rfl <| qA rfl rfl rfl <| qN <| mwp_cond_f rfl (rfl) <| mwp_seq <| qR rfl <| qC rfl rfl rfl rfl rfl <| qA rfl rfl rfl <| qN <| mwp_cond_f rfl (rfl) <| mwp_seq <| qR rfl <| qC rfl rfl rfl rfl rfl <| qA rfl rfl rfl ?_
   refine qN <| mwp_cond_t rfl (rfl) <| qR rfl <| qL rfl rfl rfl rfl ta35 rfl <| qL rfl rfl rfl rfl ta28 rfl <| qL rfl rfl rfl rfl ta28 rfl ?_
   refine wOps_op rfl (op_call rfl rfl rfl co37 ((hof _).mono ?_))
   rintro _ _ ⟨rfl, rfl⟩
   refine qM rfl rfl rfl <| qO rfl <| op_extract rfl rfl rfl <| qO rfl <| op_extract rfl rfl rfl <| qO rfl <| op_store' rfl rfl rfl rfl sz28 rfl rfl (Nat.le_of_ble_eq_true rfl) rfl <| qA rfl rfl rfl <| qN <| mwp_seq <| mwp_seq <| qR rfl <| qM rfl rfl rfl <| qO rfl <| op_ifnil rfl Tryz.underlying30 rfl rfl (.inl ⟨rfl, rfl⟩) <| qM rfl rfl rfl <| qS rfl <| qS rfl <| qP rfl rfl rfl rfl <| qN <| mwp_cond_f rfl (rfl) <| mwp_skip <| mwp_seq <| mwp_seq <| qR rfl ?_
   refine qM rfl rfl rfl <| qO rfl <| op_ifnil rfl Tryz.underlying30 rfl rfl (.inr ⟨rfl, rfl⟩) <| qN <| mwp_cond_t rfl (rfl) <| mwp_seq <| qR rfl <| qO rfl <| op_build rfl Tryz.underlying28 zm28 .nil (by kernel_rfl) ?_
   refine qM rfl rfl rfl <| qO rfl <| op_store' rfl rfl rfl rfl sz28 rfl rfl (Nat.le_of_ble_eq_true rfl) rfl <| qA rfl rfl rfl <| qN <| mwp_ret ?_
   exact ret_cell_tmp (.inr rfl) Tryz.results23 rfl rfl ta28 rfl (.agg (.cons (.refl _) (.cons (.refl _) (.cons (.nil 1) (.cons (.nil 1) (.cons (.nil 5) .nil)))))) (cl_encV _ (noV)) rfl (.refl _) (.iface _ _ (.int _ _)) ⟨by rw [bothF_mk, hBq]; rfl, rfl⟩
  ·
   refine mcalls_body Tryz.func23 rfl Tryz.ntmps23 (Nat.le_of_ble_eq_true rfl) ?_
   refine mwp_seq <| qR rfl <| qB rfl rfl rfl rfl rfl <| qB rfl rfl rfl rfl rfl <| qB rfl rfl rfl rfl rfl <| qO rfl <| op_alloc' rfl zm28 rfl rfl <| qA rfl rfl rfl <| qN <| mwp_seq <| mwp_seq <| qR rfl <| qF rfl rfl rfl fo35_0 <| qL rfl rfl rfl rfl ta3 rfl <| qN <| mwp_block <| mwp_seq <| mwp_seq <| qR rfl <| qC rfl rfl rfl rfl rfl <| qA rfl rfl rfl <| qN ?_
   refine mwp_cond_f rfl (rfl) <| qR rfl <| qC rfl rfl rfl rfl rfl <| qA rfl rfl rfl <| qN <| mwp_cond_f rfl (rfl) <| mwp_seq <| qR rfl <| qC rfl rfl rfl rfl rfl <| qA rfl rfl rfl <| qN <| mwp_cond_f rfl (rfl) <| mwp_seq <| qR rfl <| qC rfl rfl rfl rfl rfl <| qA rfl rfl rfl <| qN <| mwp_cond_f rfl (rfl) <| mwp_seq <| qR rfl <| qC rfl rfl rfl rfl rfl <| qA rfl rfl rfl ?_
   refine qN <| mwp_cond_t rfl (rfl) <| qR rfl <| qL rfl rfl rfl rfl ta35 rfl <| qL rfl rfl rfl rfl ta28 rfl <| qL rfl rfl rfl rfl ta28 rfl ?_
   refine wOps_op rfl (op_call rfl rfl rfl co37 ((hof _).mono ?_))
   rintro _ _ ⟨rfl, rfl⟩
   refine qM rfl rfl rfl <| qO rfl <| op_extract rfl rfl rfl <| qO rfl <| op_extract rfl rfl rfl <| qO rfl <| op_store' rfl rfl rfl rfl sz28 rfl rfl (Nat.le_of_ble_eq_true rfl) rfl <| qA rfl rfl rfl <| qN <| mwp_seq <| mwp_seq <| qR rfl <| qM rfl rfl rfl <| qO rfl <| op_if0 rfl Tryz.underlying30 rfl rfl (.inl ⟨rfl, rfl⟩) <| qM rfl rfl rfl <| qL rfl rfl rfl rfl ta28 rfl ?_
   refine wOps_op rfl (op_call rfl rfl rfl co41 ((isLarge_spec n3 m3 s3 c3 w3 _).mono ?_))
   rintro _ _ ⟨rfl, rfl⟩
   refine qP rfl rfl rfl rfl <| qN ?_
   refine mwp_cond_split rfl (fun h69 => ?_) (fun h69 => ?_)
   ·
    refine qR rfl <| qO rfl <| op_makeInterface rfl rfl Tryz.underlying38 (by simp) ?_
    refine qA rfl rfl rfl <| qN <| mwp_seq <| mwp_seq <| qR rfl <| qM rfl rfl rfl <| qO rfl <| op_ifnil rfl Tryz.underlying30 rfl rfl (.inr ⟨rfl, rfl⟩) <| qN <| mwp_cond_t rfl (rfl) <| mwp_seq <| qR rfl <| qO rfl <| op_build rfl Tryz.underlying28 zm28 .nil (by kernel_rfl) ?_
    refine qM rfl rfl rfl <| qO rfl <| op_store' rfl rfl rfl rfl sz28 rfl rfl (Nat.le_of_ble_eq_true rfl) rfl <| qA rfl rfl rfl <| qN <| mwp_ret ?_
    exact ret_cell_tmp (.inr rfl) Tryz.results23 rfl rfl ta28 rfl (.agg (.cons (.refl _) (.cons (.refl _) (.cons (.nil 1) (.cons (.nil 1) (.cons (.nil 5) .nil)))))) (cl_encV _ (noV)) rfl (.refl _) (.iface _ _ (.int _ _)) ⟨by rw [bothF_mk, hBq, cap_t h69]; rfl, rfl⟩
   ·
    refine mwp_skip <| mwp_seq <| mwp_seq <| qR rfl <| qM rfl rfl rfl <| qO rfl <| op_if0 rfl Tryz.underlying30 rfl rfl (.inr ⟨rfl, rfl⟩) <| qN <| mwp_cond_f rfl (rfl) <| mwp_skip <| mwp_seq <| qR rfl <| qL rfl rfl rfl rfl ta28 rfl <| qO rfl <| op_store' rfl rfl rfl rfl sz28 rfl rfl (Nat.le_of_ble_eq_true rfl) rfl <| qA rfl rfl rfl <| qN <| mwp_ret ?_
    exact ret_cell_tmp (.inr rfl) Tryz.results23 rfl rfl ta28 rfl (.refl _) (cl_encV _ (.mk n3 m3 s3 c3 w3)) rfl (.refl _) (.iface0) ⟨by rw [bothF_mk, hBq, cap_f h69]; rfl, rfl⟩
 ·
  obtain ⟨n3, m3, s3, c3, w3, hlt⟩ : ∃ n m s c w, laterF (.mk n1 m1 s1 c1 w1) (.mk n2 m2 s2 c2 w2) = .mk n m s c w := by cases laterF (.mk n1 m1 s1 c1 w1) (.mk n2 m2 s2 c2 w2) with
   | mk n m s c w => exact ⟨n, m, s, c, w, rfl⟩
  have hlt2 := later_spec n1 m1 s1 c1 w1 n2 m2 s2 c2 w2
  rw [hlt] at hlt2
  have hB : bothB 6 (bothL ins) (.mk n1 m1 s1 c1 w1) (.mk n2 m2 s2 c2 w2) = some (.mk n3 m3 s3 c3 w3) := congrArg some hlt
  refine mcalls_body Tryz.func23 rfl Tryz.ntmps23 (Nat.le_of_ble_eq_true rfl) ?_
  refine mwp_seq <| qR rfl <| qB rfl rfl rfl rfl rfl <| qB rfl rfl rfl rfl rfl <| qB rfl rfl rfl rfl rfl <| qO rfl <| op_alloc' rfl zm28 rfl rfl <| qA rfl rfl rfl <| qN <| mwp_seq <| mwp_seq <| qR rfl <| qF rfl rfl rfl fo35_0 <| qL rfl rfl rfl rfl ta3 rfl <| qN <| mwp_block <| mwp_seq <| mwp_seq <| qR rfl <| qC rfl rfl rfl rfl rfl <| qA rfl rfl rfl <| qN ?_
  refine mwp_cond_f rfl (rfl) <| qR rfl <| qC rfl rfl rfl rfl rfl <| qA rfl rfl rfl <| qN <| mwp_cond_f rfl (rfl) <| mwp_seq <| qR rfl <| qC rfl rfl rfl rfl rfl <| qA rfl rfl rfl <| qN <| mwp_cond_f rfl (rfl) <| mwp_seq <| qR rfl <| qC rfl rfl rfl rfl rfl <| qA rfl rfl rfl <| qN <| mwp_cond_f rfl (rfl) <| mwp_seq <| qR rfl <| qC rfl rfl rfl rfl rfl <| qA rfl rfl rfl ?_
  refine qN <| mwp_cond_f rfl (rfl) <| mwp_seq <| qR rfl <| qC rfl rfl rfl rfl rfl <| qA rfl rfl rfl <| qN <| mwp_cond_t rfl (rfl) <| qR rfl <| qL rfl rfl rfl rfl ta28 rfl <| qL rfl rfl rfl rfl ta28 rfl ?_
  refine wOps_op rfl (op_call rfl rfl rfl co38 ((hlt2 _).mono ?_))
  rintro _ _ ⟨rfl, rfl⟩
  refine qO rfl <| op_store' rfl rfl rfl rfl sz28 rfl rfl (Nat.le_of_ble_eq_true rfl) rfl <| qN <| mwp_seq <| mwp_seq <| qR rfl <| qM rfl rfl rfl <| qO rfl <| op_if0 rfl Tryz.underlying30 rfl rfl (.inl ⟨rfl, rfl⟩) <| qM rfl rfl rfl <| qL rfl rfl rfl rfl ta28 rfl ?_
  refine wOps_op rfl (op_call rfl rfl rfl co41 ((isLarge_spec n3 m3 s3 c3 w3 _).mono ?_))
  rintro _ _ ⟨rfl, rfl⟩
  refine qP rfl rfl rfl rfl <| qN ?_
  refine mwp_cond_split rfl (fun h69 => ?_) (fun h69 => ?_)
  ·
   refine qR rfl <| qO rfl <| op_makeInterface rfl rfl Tryz.underlying38 (by simp) ?_
   refine qA rfl rfl rfl <| qN <| mwp_seq <| mwp_seq <| qR rfl <| qM rfl rfl rfl <| qO rfl <| op_ifnil rfl Tryz.underlying30 rfl rfl (.inr ⟨rfl, rfl⟩) <| qN <| mwp_cond_t rfl (rfl) <| mwp_seq <| qR rfl <| qO rfl <| op_build rfl Tryz.underlying28 zm28 .nil (by kernel_rfl) ?_
   refine qM rfl rfl rfl <| qO rfl <| op_store' rfl rfl rfl rfl sz28 rfl rfl (Nat.le_of_ble_eq_true rfl) rfl <| qA rfl rfl rfl <| qN <| mwp_ret ?_
   exact ret_cell_tmp (.inr rfl) Tryz.results23 rfl rfl ta28 rfl (.agg (.cons (.refl _) (.cons (.refl _) (.cons (.nil 1) (.cons (.nil 1) (.cons (.nil 5) .nil)))))) (cl_encV _ (noV)) rfl (.refl _) (.iface _ _ (.int _ _)) ⟨by rw [bothF_mk, hB, cap_t h69]; rfl, rfl⟩
  ·
   refine mwp_skip <| mwp_seq <| mwp_seq <| qR rfl <| qM rfl rfl rfl <| qO rfl <| op_if0 rfl Tryz.underlying30 rfl rfl (.inr ⟨rfl, rfl⟩) <| qN <| mwp_cond_f rfl (rfl) <| mwp_skip <| mwp_seq <| qR rfl <| qL rfl rfl rfl rfl ta28 rfl <| qO rfl <| op_store' rfl rfl rfl rfl sz28 rfl rfl (Nat.le_of_ble_eq_true rfl) rfl <| qA rfl rfl rfl <| qN <| mwp_ret ?_
   exact ret_cell_tmp (.inr rfl) Tryz.results23 rfl rfl ta28 rfl (.refl _) (cl_encV _ (.mk n3 m3 s3 c3 w3)) rfl (.refl _) (.iface0) ⟨by rw [bothF_mk, hB, cap_f h69]; rfl, rfl⟩
 ·
  have b1 := isV7 ha
  have b2 := isV7 hb
  obtain ⟨n3, m3, s3, c3, w3, hlt⟩ : ∃ n m s c w, clocksF (.mk n1 m1 s1 c1 w1) (.mk n2 m2 s2 c2 w2) = .mk n m s c w := by cases clocksF (.mk n1 m1 s1 c1 w1) (.mk n2 m2 s2 c2 w2) with
   | mk n m s c w => exact ⟨n, m, s, c, w, rfl⟩
  have hlt2 := clocks_spec n1 m1 s1 c1 w1 n2 m2 s2 c2 w2 (fun x hx y hy => by have := b1 x hx; have := b2 y hy; omega)
  rw [hlt] at hlt2
  have hB : bothB 7 (bothL ins) (.mk n1 m1 s1 c1 w1) (.mk n2 m2 s2 c2 w2) = some (.mk n3 m3 s3 c3 w3) := congrArg some hlt
  refine mcalls_body Tryz.func23 rfl Tryz.ntmps23 (Nat.le_of_ble_eq_true rfl) ?_
  refine mwp_seq <| qR rfl <| qB rfl rfl rfl rfl rfl <| qB rfl rfl rfl rfl rfl <| qB rfl rfl rfl rfl rfl <| qO rfl <| op_alloc' rfl zm28 rfl rfl <| qA rfl rfl rfl <| qN <| mwp_seq <| mwp_seq <| qR rfl <| qF rfl rfl rfl fo35_0 <| qL rfl rfl rfl rfl ta3 rfl <| qN <| mwp_block <| mwp_seq <| mwp_seq <| qR rfl <| qC rfl rfl rfl rfl rfl <| qA rfl rfl rfl <| qN ?_
  refine mwp_cond_f rfl (rfl) <| qR rfl <| qC rfl rfl rfl rfl rfl <| qA rfl rfl rfl <| qN <| mwp_cond_f rfl (rfl) <| mwp_seq <| qR rfl <| qC rfl rfl rfl rfl rfl <| qA rfl rfl rfl <| qN <| mwp_cond_f rfl (rfl) <| mwp_seq <| qR rfl <| qC rfl rfl rfl rfl rfl <| qA rfl rfl rfl <| qN <| mwp_cond_f rfl (rfl) <| mwp_seq <| qR rfl <| qC rfl rfl rfl rfl rfl <| qA rfl rfl rfl ?_
  refine qN <| mwp_cond_f rfl (rfl) <| mwp_seq <| qR rfl <| qC rfl rfl rfl rfl rfl <| qA rfl rfl rfl <| qN <| mwp_cond_f rfl (rfl) <| mwp_seq <| qR rfl <| qC rfl rfl rfl rfl rfl <| qA rfl rfl rfl <| qN <| mwp_cond_t rfl (rfl) <| qR rfl <| qL rfl rfl rfl rfl ta28 rfl <| qL rfl rfl rfl rfl ta28 rfl ?_
  refine wOps_op rfl (op_call rfl rfl rfl co39 ((hlt2 _).mono ?_))
  rintro _ _ ⟨rfl, rfl⟩
  refine qO rfl <| op_store' rfl rfl rfl rfl sz28 rfl rfl (Nat.le_of_ble_eq_true rfl) rfl <| qN <| mwp_seq <| mwp_seq <| qR rfl <| qM rfl rfl rfl <| qO rfl <| op_if0 rfl Tryz.underlying30 rfl rfl (.inl ⟨rfl, rfl⟩) <| qM rfl rfl rfl <| qL rfl rfl rfl rfl ta28 rfl ?_
  refine wOps_op rfl (op_call rfl rfl rfl co41 ((isLarge_spec n3 m3 s3 c3 w3 _).mono ?_))
  rintro _ _ ⟨rfl, rfl⟩
  refine qP rfl rfl rfl rfl <| qN ?_
  refine mwp_cond_split rfl (fun h69 => ?_) (fun h69 => ?_)
  ·
   refine qR rfl <| qO rfl <| op_makeInterface rfl rfl Tryz.underlying38 (by simp) ?_
   refine qA rfl rfl rfl <| qN <| mwp_seq <| mwp_seq <| qR rfl <| qM rfl rfl rfl <| qO rfl <| op_ifnil rfl Tryz.underlying30 rfl rfl (.inr ⟨rfl, rfl⟩) <| qN <| mwp_cond_t rfl (rfl) <| mwp_seq <| qR rfl <| qO rfl <| op_build rfl Tryz.underlying28 zm28 .nil (by kernel_rfl) ?_
   refine qM rfl rfl rfl <| qO rfl <| op_store' rfl rfl rfl rfl sz28 rfl rfl (Nat.le_of_ble_eq_true rfl) rfl <| qA rfl rfl rfl <| qN <| mwp_ret ?_
   exact ret_cell_tmp (.inr rfl) Tryz.results23 rfl rfl ta28 rfl (.agg (.cons (.refl _) (.cons (.refl _) (.cons (.nil 1) (.cons (.nil 1) (.cons (.nil 5) .nil)))))) (cl_encV _ (noV)) rfl (.refl _) (.iface _ _ (.int _ _)) ⟨by rw [bothF_mk, hB, cap_t h69]; rfl, rfl⟩
  ·
   refine mwp_skip <| mwp_seq <| mwp_seq <| qR rfl <| qM rfl rfl rfl <| qO rfl <| op_if0 rfl Tryz.underlying30 rfl rfl (.inr ⟨rfl, rfl⟩) <| qN <| mwp_cond_f rfl (rfl) <| mwp_skip <| mwp_seq <| qR rfl <| qL rfl rfl rfl rfl ta28 rfl <| qO rfl <| op_store' rfl rfl rfl rfl sz28 rfl rfl (Nat.le_of_ble_eq_true rfl) rfl <| qA rfl rfl rfl <| qN <| mwp_ret ?_
   exact ret_cell_tmp (.inr rfl) Tryz.results23 rfl rfl ta28 rfl (.refl _) (cl_encV _ (.mk n3 m3 s3 c3 w3)) rfl (.refl _) (.iface0) ⟨by rw [bothF_mk, hB, cap_f h69]; rfl, rfl⟩
 ·
  obtain ⟨⟨k1, i1⟩, rfl⟩ := one_ins hd.1 (by decide)
  have ih1 := ih (.mk k1 i1) (hd.2 _ (by simp))
  obtain ⟨p1, p2, p4, p3⟩ := isV8 ha
  obtain ⟨q1, q2, q4, q3⟩ := isV8 hb
  have hof := causes_spec 8 k1 i1 [] (bothF (.mk k1 i1)) n1 m1 s1 c1 w1 n2 m2 s2 c2 w2 p2 q2 p1 q1 (fun x hx => by have := p4 x hx; omega) (fun x hx => by have := q4 x hx; omega) (fun x hx y hy => ih1 x y (p3 x hx) (q3 y hy))
  have hBq : bothB 8 (bothL [.mk k1 i1]) (.mk n1 m1 s1 c1 w1) (.mk n2 m2 s2 c2 w2) = causesF (bothF (.mk k1 i1)) (.mk n1 m1 s1 c1 w1) (.mk n2 m2 s2 c2 w2) := rfl
  rcases hO : causesF (bothF (.mk k1 i1)) (.mk n1 m1 s1 c1 w1) (.mk n2 m2 s2 c2 w2) with _ | ⟨⟨n3, m3, s3, c3, w3⟩⟩ <;> rw [hO] at hof hBq
  ·
   refine mcalls_body Tryz.func23 rfl Tryz.ntmps23 (Nat.le_of_ble_eq_true rfl) ?_
   refine mwp_seq <| qR rfl <| qB rfl rfl rfl rfl rfl <| qB rfl rfl rfl rfl rfl <| qB rfl rfl rfl rfl rfl <| qO rfl <| op_alloc' rfl zm28 rfl rfl <| qA rfl rfl rfl <| qN <| mwp_seq <| mwp_seq <| qR rfl <| qF rfl rfl rfl fo35_0 <| qL rfl rfl rfl rfl ta3 rfl <| qN <| mwp_block <| mwp_seq <| mwp_seq <| qR rfl <| qC rfl rfl rfl rfl rfl <| qA rfl rfl rfl <| qN ?_
   refine mwp_cond_f rfl (rfl) <| qR rfl <| qC rfl rfl rfl rfl rfl <| qA rfl rfl rfl <| qN <| mwp_cond_f rfl (rfl) <| mwp_seq <| qR rfl <| qC rfl rfl rfl rfl rfl <| qA rfl rfl rfl <| qN <| mwp_cond_f rfl (rfl) <| mwp_seq <| qR rfl <| qC rfl rfl rfl rfl rfl <| qA rfl rfl rfl <| qN <| mwp_cond_f rfl (rfl) <| mwp_seq <| qR rfl <| qC rfl rfl rfl rfl rfl <| qA rfl rfl rfl ?_
   refine qN <| mwp_cond_f rfl (rfl) <| mwp_seq <| qR rfl <| qC rfl rfl rfl rfl rfl <| qA rfl rfl rfl <| qN <| mwp_cond_f rfl (rfl) <| mwp_seq <| qR rfl <| qC rfl rfl rfl rfl rfl <| qA rfl rfl rfl <| qN <| mwp_cond_f rfl (rfl) <| mwp_seq <| qR rfl <| qC rfl rfl rfl rfl rfl <| qA rfl rfl rfl <| qN <| mwp_cond_t rfl (rfl) <| qR rfl <| qL rfl rfl rfl rfl ta35 rfl <| qL rfl rfl rfl rfl ta28 rfl ?_
   refine qL rfl rfl rfl rfl ta28 rfl ?_
   refine wOps_op rfl (op_call rfl rfl rfl co40 ((hof _).mono ?_))
   rintro _ _ ⟨rfl, rfl⟩
   refine qM rfl rfl rfl <| qO rfl <| op_extract rfl rfl rfl <| qO rfl <| op_extract rfl rfl rfl <| qO rfl <| op_store' rfl rfl rfl rfl sz28 rfl rfl (Nat.le_of_ble_eq_true rfl) rfl <| qA rfl rfl rfl <| qN <| mwp_seq <| mwp_seq <| qR rfl <| qM rfl rfl rfl <| qO rfl <| op_ifnil rfl Tryz.underlying30 rfl rfl (.inl ⟨rfl, rfl⟩) <| qM rfl rfl rfl <| qS rfl <| qS rfl <| qP rfl rfl rfl rfl <| qN <| mwp_cond_f rfl (rfl) <| mwp_skip <| mwp_seq <| mwp_seq <| qR rfl ?_
   refine qM rfl rfl rfl <| qO rfl <| op_ifnil rfl Tryz.underlying30 rfl rfl (.inr ⟨rfl, rfl⟩) <| qN <| mwp_cond_t rfl (rfl) <| mwp_seq <| qR rfl <| qO rfl <| op_build rfl Tryz.underlying28 zm28 .nil (by kernel_rfl) ?_
   refine qM rfl rfl rfl <| qO rfl <| op_store' rfl rfl rfl rfl sz28 rfl rfl (Nat.le_of_ble_eq_true rfl) rfl <| qA rfl rfl rfl <| qN <| mwp_ret ?_
   exact ret_cell_tmp (.inr rfl) Tryz.results23 rfl rfl ta28 rfl (.agg (.cons (.refl _) (.cons (.refl _) (.cons (.nil 1) (.cons (.nil 1) (.cons (.nil 5) .nil)))))) (cl_encV _ (noV)) rfl (.refl _) (.iface _ _ (.int _ _)) ⟨by rw [bothF_mk, hBq]; rfl, rfl⟩
  ·
   refine mcalls_body Tryz.func23 rfl Tryz.ntmps23 (Nat.le_of_ble_eq_true rfl) ?_
   refine mwp_seq <| qR rfl <| qB rfl rfl rfl rfl rfl <| qB rfl rfl rfl rfl rfl <| qB rfl rfl rfl rfl rfl <| qO rfl <| op_alloc' rfl zm28 rfl rfl <| qA rfl rfl rfl <| qN <| mwp_seq <| mwp_seq <| qR rfl <| qF rfl rfl rfl fo35_0 <| qL rfl rfl rfl rfl ta3 rfl <| qN <| mwp_block <| mwp_seq <| mwp_seq <| qR rfl <| qC rfl rfl rfl rfl rfl <| qA rfl rfl rfl <| qN ?_
   refine mwp_cond_f rfl (rfl) <| qR rfl <| qC rfl rfl rfl rfl rfl <| qA rfl rfl rfl <| qN <| mwp_cond_f rfl (rfl) <| mwp_seq <| qR rfl <| qC rfl rfl rfl rfl rfl <| qA rfl rfl rfl <| qN <| mwp_cond_f rfl (rfl) <| mwp_seq <| qR rfl <| qC rfl rfl rfl rfl rfl <| qA rfl rfl rfl <| qN <| mwp_cond_f rfl (rfl) <| mwp_seq <| qR rfl <| qC rfl rfl rfl rfl rfl <| qA rfl rfl rfl ?_
   refine qN <| mwp_cond_f rfl (rfl) <| mwp_seq <| qR rfl <| qC rfl rfl rfl rfl rfl <| qA rfl rfl rfl <| qN <| mwp_cond_f rfl (rfl) <| mwp_seq <| qR rfl <| qC rfl rfl rfl rfl rfl <| qA rfl rfl rfl <| qN <| mwp_cond_f rfl (rfl) <| mwp_seq <| qR rfl <| qC rfl rfl rfl rfl rfl <| qA rfl rfl rfl <| qN <| mwp_cond_t rfl (rfl) <| qR rfl <| qL rfl rfl rfl rfl ta35 rfl <| qL rfl rfl rfl rfl ta28 rfl ?_
   refine qL rfl rfl rfl rfl ta28 rfl ?_
   refine wOps_op rfl (op_call rfl rfl rfl co40 ((hof _).mono ?_))
   rintro _ _ ⟨rfl, rfl⟩
   refine qM rfl rfl rfl <| qO rfl <| op_extract rfl rfl rfl <| qO rfl <| op_extract rfl rfl rfl <| qO rfl <| op_store' rfl rfl rfl rfl sz28 rfl rfl (Nat.le_of_ble_eq_true rfl) rfl <| qA rfl rfl rfl <| qN <| mwp_seq <| mwp_seq <| qR rfl <| qM rfl rfl rfl <| qO rfl <| op_if0 rfl Tryz.underlying30 rfl rfl (.inl ⟨rfl, rfl⟩) <| qM rfl rfl rfl <| qL rfl rfl rfl rfl ta28 rfl ?_
   refine wOps_op rfl (op_call rfl rfl rfl co41 ((isLarge_spec n3 m3 s3 c3 w3 _).mono ?_))
   rintro _ _ ⟨rfl, rfl⟩
   refine qP rfl rfl rfl rfl <| qN ?_
   refine mwp_cond_split rfl (fun h69 => ?_) (fun h69 => ?_)
   ·
    refine qR rfl <| qO rfl <| op_makeInterface rfl rfl Tryz.underlying38 (by simp) ?_
    refine qA rfl rfl rfl <| qN <| mwp_seq <| mwp_seq <| qR rfl <| qM rfl rfl rfl <| qO rfl <| op_ifnil rfl Tryz.underlying30 rfl rfl (.inr ⟨rfl, rfl⟩) <| qN <| mwp_cond_t rfl (rfl) <| mwp_seq <| qR rfl <| qO rfl <| op_build rfl Tryz.underlying28 zm28 .nil (by kernel_rfl) ?_
    refine qM rfl rfl rfl <| qO rfl <| op_store' rfl rfl rfl rfl sz28 rfl rfl (Nat.le_of_ble_eq_true rfl) rfl <| qA rfl rfl rfl <| qN <| mwp_ret ?_
    exact ret_cell_tmp (.inr rfl) Tryz.results23 rfl rfl ta28 rfl (.agg (.cons (.refl _) (.cons (.refl _) (.cons (.nil 1) (.cons (.nil 1) (.cons (.nil 5) .nil)))))) (cl_encV _ (noV)) rfl (.refl _) (.iface _ _ (.int _ _)) ⟨by rw [bothF_mk, hBq, cap_t h69]; rfl, rfl⟩
   ·
    refine mwp_skip <| mwp_seq <| mwp_seq <| qR rfl <| qM rfl rfl rfl <| qO rfl <| op_if0 rfl Tryz.underlying30 rfl rfl (.inr ⟨rfl, rfl⟩) <| qN <| mwp_cond_f rfl (rfl) <| mwp_skip <| mwp_seq <| qR rfl <| qL rfl rfl rfl rfl ta28 rfl <| qO rfl <| op_store' rfl rfl rfl rfl sz28 rfl rfl (Nat.le_of_ble_eq_true rfl) rfl <| qA rfl rfl rfl <| qN <| mwp_ret ?_
    exact ret_cell_tmp (.inr rfl) Tryz.results23 rfl rfl ta28 rfl (.refl _) (cl_encV _ (.mk n3 m3 s3 c3 w3)) rfl (.refl _) (.iface0) ⟨by rw [bothF_mk, hBq, cap_f h69]; rfl, rfl⟩
end Go.Proofs.YtihpnfpdocnniaaGreat
end
section
set_option linter.unusedVariables false
set_option linter.unusedSimpArgs false
namespace Go.Proofs.YtihpnfpdocnniaaGreat
open Go Go.MV Go.RowKit
theorem mergeF_mem {α : Type} {cmp : α → α → Int} {bo : α → α → α} {P : α → Prop} (hbo : ∀ x y, P x → P y → P (bo x y)) : ∀ a b : List α, (∀ x ∈ a, P x) → (∀ x ∈ b, P x) → ∀ x ∈ mergeF cmp bo a b, P x := by
  intro a b
  induction a, b using mergeF.induct cmp with
  | case1 b => intro _ h; rwa [mergeF]
  | case2 a h0 => intro h _; rw [merge_nil]; exact h
  | case3 x a y b hlt ih =>
    intro h1 h2 z hz
    rw [mergeF, if_pos hlt] at hz
    rcases List.mem_cons.1 hz with rfl | hz
    · exact h1 _ (.head _)
    · exact ih (fun x hx => h1 x (.tail _ hx)) h2 z hz
  | case4 x a y b hlt hgt ih =>
    intro h1 h2 z hz
    rw [mergeF, if_neg hlt, if_pos hgt] at hz
    rcases List.mem_cons.1 hz with rfl | hz
    · exact h2 _ (.head _)
    · exact ih h1 (fun x hx => h2 x (.tail _ hx)) z hz
  | case5 x a y b hlt hgt ih =>
    intro h1 h2 z hz
    rw [mergeF, if_neg hlt, if_neg hgt] at hz
    rcases List.mem_cons.1 hz with rfl | hz
    · exact hbo _ _ (h1 _ (.head _)) (h2 _ (.head _))
    · exact ih (fun x hx => h1 x (.tail _ hx)) (fun x hx => h2 x (.tail _ hx)) z hz
theorem join_ok {a b : List Tk} (ha : ∀ t ∈ a, okTk t) (hb : ∀ t ∈ b, okTk t) : ∀ t ∈ joinF a b, okTk t := mergeF_mem (P := okTk) (fun x y hx hy => by unfold okTk Go.MV.bothT at *; dsimp only; split <;> assumption) a b ha hb
theorem goE_ok {κ : Type} {f : Val → Val → Option Val} {P : κ → Prop} {Q : Val → Prop} : ∀ {l : List (Ent κ)} {x : List (κ × Val)}, (∀ e ∈ l, P e.1 ∧ Q e.2.1 ∧ ∀ y, e.2.2 = some y → Q y ∧ ∀ v, f e.2.1 y = some v → Q v) → goE f l = some x → ∀ p ∈ x, P p.1 ∧ Q p.2
  | [], x, _, h => by simp [goE] at h; subst h; simp
  | e :: l, x, hl, h => by
    rw [goE] at h
    cases ho : ofE f e with
    | none => rw [ho] at h; cases h
    | some v =>
      rw [ho] at h
      cases hg : goE f l with
      | none => rw [hg] at h; cases h
      | some y =>
        rw [hg] at h
        simp at h
        subst h
        obtain ⟨h1, h2, h3⟩ := hl e (.head _)
        intro p hp
        rcases List.mem_cons.1 hp with rfl | hp
        · refine ⟨h1, ?_⟩
          unfold ofE at ho
          cases he : e.2.2 with
          | none => rw [he] at ho; injection ho with ho; subst ho; exact h2
          | some y => rw [he] at ho; exact (h3 y he).2 v ho
        · exact goE_ok (fun e he => hl e (.tail _ he)) hg p hp
theorem zip_m1 {α β : Type} {a : List α} {b : List β} {x : α} {y : β} (h : (x, y) ∈ a.zip b) : x ∈ a := (List.of_mem_zip h).1
theorem zip_m2 {α β : Type} {a : List α} {b : List β} {x : α} {y : β} (h : (x, y) ∈ a.zip b) : y ∈ b := (List.of_mem_zip h).2
theorem okV_mk {n m : Int} {s : List Bs} {c : List (List Tk)} {w : List Val} : okV (.mk n m s c w) ↔ (0 ≤ n ∧ n < 18446744073709551616) ∧ (0 ≤ m ∧ m < 18446744073709551616) ∧ (∀ x ∈ c, ∀ t ∈ x, okTk t) ∧ ∀ x ∈ w, okV x := by rw [okV, okVs_iff]
theorem cap_some {o : Option Val} {v : Val} (h : capF o = some v) : o = some v := by
  cases o with
  | none => cases h
  | some u =>
    unfold capF at h
    simp only [Option.bind_some] at h
    split at h
    · cases h
    · exact h
theorem okV_both : ∀ (d : Nat) (t : Sch), isF d t = true → ∀ a b v : Val, okV a → okV b → bothF t a b = some v → okV v
  | 0, t, h => by simp [isF] at h
  | d + 1, .mk k ins, h => by
    rw [isF] at h
    simp only [Bool.and_eq_true, List.all_eq_true, beq_iff_eq] at h
    rintro ⟨n1, m1, s1, c1, w1⟩ ⟨n2, m2, s2, c2, w2⟩ v ha hb hv
    rw [bothF_mk] at hv
    replace hv := cap_some hv
    have a0 := okV_mk.1 ha
    have b0 := okV_mk.1 hb
    rcases k8_of h.1 with rfl | rfl | rfl | rfl | rfl | rfl | rfl | rfl
    · injection hv with hv; subst hv
      exact okV_mk.2 ⟨by simp only [Val.nv]; omega, by omega, by simp, by simp⟩
    · injection hv with hv; subst hv
      exact okV_mk.2 ⟨by simp only [Val.nv]; omega, by omega, by simp, by simp⟩
    · injection hv with hv; subst hv
      exact okV_mk.2 ⟨by omega, by omega, by simp, by simp⟩
    · obtain ⟨t1, rfl⟩ := one_ins h.1 (by decide)
      have ih := okV_both d t1 (h.2 _ (by simp))
      replace hv : mapsF (bothF t1) (.mk n1 m1 s1 c1 w1) (.mk n2 m2 s2 c2 w2) = some v := by rw [← hv]; simp [bothB, bothL]
      unfold mapsF at hv
      obtain ⟨x, hx, rfl⟩ := Option.map_eq_some_iff.1 hv
      have := goE_ok (P := fun _ => True) (Q := okV) (fun e he => by
        obtain ⟨p, q⟩ := mergeE_mem _ _ _ e he
        have h1 : okV e.2.1 := p.elim (fun h => a0.2.2.2 _ (zip_m2 h)) (fun h => b0.2.2.2 _ (zip_m2 h))
        refine ⟨trivial, h1, fun y hy => ?_⟩
        obtain ⟨q1, k, q2⟩ := q y hy
        exact ⟨b0.2.2.2 _ (zip_m2 q2), fun v hv => ih _ _ v h1 (b0.2.2.2 _ (zip_m2 q2)) hv⟩) hx
      refine okV_mk.2 ⟨by omega, by omega, by simp, fun y hy => ?_⟩
      obtain ⟨p, hp, rfl⟩ := List.mem_map.1 hy
      exact (this p hp).2
    · obtain ⟨t1, t2, rfl⟩ := two_of h.1
      have ih1 := okV_both d t1 (h.2 _ (by simp))
      have ih2 := okV_both d t2 (h.2 _ (by simp))
      replace hv : pairF2 [bothF t1, bothF t2] (.mk n1 m1 s1 c1 w1) (.mk n2 m2 s2 c2 w2) = some v := by rw [← hv]; simp [bothB, bothL]
      unfold pairF2 at hv
      obtain ⟨x, hx, rfl⟩ := Option.map_eq_some_iff.1 hv
      refine okV_mk.2 ⟨by omega, by omega, by simp, ?_⟩
      simp only [Val.vv] at hx
      match w1, w2, a0, b0, hx with
      | [], _, _, _, hx => simp [goP] at hx; subst hx; simp
      | _ :: _, [], _, _, hx => simp [goP] at hx; subst hx; simp
      | [x1], y1 :: w2, a0, b0, hx =>
        simp only [goP] at hx
        cases hf : bothF t1 x1 y1 with
        | none => rw [hf] at hx; cases hx
        | some u => rw [hf] at hx; simp at hx; subst hx; simp; exact ih1 _ _ _ (a0.2.2.2 _ (by simp)) (b0.2.2.2 _ (by simp)) hf
      | x1 :: x2 :: w1, [y1], a0, b0, hx =>
        simp only [goP] at hx
        cases hf : bothF t1 x1 y1 with
        | none => rw [hf] at hx; cases hx
        | some u => rw [hf] at hx; simp at hx; subst hx; simp; exact ih1 _ _ _ (a0.2.2.2 _ (by simp)) (b0.2.2.2 _ (by simp)) hf
      | x1 :: x2 :: w1, y1 :: y2 :: w2, a0, b0, hx =>
        simp only [goP] at hx
        cases hf : bothF t1 x1 y1 with
        | none => rw [hf] at hx; cases hx
        | some u =>
          rw [hf] at hx
          cases hg : bothF t2 x2 y2 with
          | none => rw [hg] at hx; cases hx
          | some u2 =>
            rw [hg] at hx
            simp at hx
            subst hx
            simp
            exact ⟨ih1 _ _ _ (a0.2.2.2 _ (by simp)) (b0.2.2.2 _ (by simp)) hf, ih2 _ _ _ (a0.2.2.2 _ (by simp)) (b0.2.2.2 _ (by simp)) hg⟩
    · injection hv with hv; subst hv
      unfold laterF
      split
      · exact hb
      · exact ha
    · injection hv with hv; subst hv
      unfold clocksF
      split
      · exact hb
      · split
        · exact ha
        · rename_i h1 h2
          refine okV_mk.2 ⟨by omega, by omega, ?_, by simp⟩
          intro x hx
          rw [List.mem_singleton] at hx
          subst hx
          simp only [Val.cv] at h1 h2 ⊢
          cases c1 with
          | nil => simp at h1
          | cons x c1 =>
            cases c2 with
            | nil => simp at h2
            | cons y c2 => exact join_ok (a0.2.2.1 _ (by simp)) (b0.2.2.1 _ (by simp))
    · obtain ⟨t1, rfl⟩ := one_ins h.1 (by decide)
      have ih := okV_both d t1 (h.2 _ (by simp))
      replace hv : causesF (bothF t1) (.mk n1 m1 s1 c1 w1) (.mk n2 m2 s2 c2 w2) = some v := by rw [← hv]; simp [bothB, bothL]
      unfold causesF at hv
      obtain ⟨x, hx, rfl⟩ := Option.map_eq_some_iff.1 hv
      have := goE_ok (P := fun k => ∀ t ∈ k, okTk t) (Q := okV) (fun e he => by
        obtain ⟨p, q⟩ := mergeE_mem _ _ _ e (List.mem_filter.1 he).1
        have h1 : okV e.2.1 := p.elim (fun h => a0.2.2.2 _ (zip_m2 h)) (fun h => b0.2.2.2 _ (zip_m2 h))
        refine ⟨p.elim (fun h => a0.2.2.1 _ (zip_m1 h)) (fun h => b0.2.2.1 _ (zip_m1 h)), h1, fun y hy => ?_⟩
        obtain ⟨q1, k, q2⟩ := q y hy
        exact ⟨b0.2.2.2 _ (zip_m2 q2), fun v hv => ih _ _ v h1 (b0.2.2.2 _ (zip_m2 q2)) hv⟩) hx
      refine okV_mk.2 ⟨by omega, by omega, fun y hy => ?_, fun y hy => ?_⟩
      · obtain ⟨p, hp, rfl⟩ := List.mem_map.1 hy
        exact (this p hp).1
      · obtain ⟨p, hp, rfl⟩ := List.mem_map.1 hy
        exact (this p hp).2
end Go.Proofs.YtihpnfpdocnniaaGreat
end
section
set_option linter.unusedVariables false
set_option linter.unusedSimpArgs false
set_option maxRecDepth 20000
set_option maxHeartbeats 400000
namespace Go.Proofs.YtihpnfpdocnniaaGreat
open Go Go.MV
theorem rBottomV_spec (d : Nat) : d ≤ 16 → ∀ (s : Sch), isF d s = true → ∀ S : MS, MCalls Tryz.prog 33 [encS s] S fun v σ' => v = encV (BottomF s) ∧ σ' = S := by
 induction d with
 | zero => intro _ s h; simp [isF] at h
 | succ d ih =>
 rintro h16 ⟨k, ins⟩ hd S
 have his := isF_le h16 hd
 rw [isF] at hd
 simp only [Bool.and_eq_true, List.all_eq_true, beq_iff_eq] at hd
 refine mcalls_body Tryz.func33 rfl Tryz.ntmps33 (Nat.le_of_ble_eq_true rfl) ?_
 refine mwp_seq <| qR rfl <| qB rfl rfl rfl rfl rfl <| qO rfl <| op_alloc' rfl zm28 rfl rfl <| qN <| mwp_seq <| mwp_seq <| qR rfl <| qL rfl rfl rfl rfl ta35 rfl ?_
 refine wOps_op rfl (op_call rfl rfl rfl co28 ((rIsSchema_spec (.mk k ins) _).mono ?_))
 rintro _ _ ⟨rfl, rfl⟩
 rw [his]
 refine qO rfl <| op_not rfl rfl <| qM rfl rfl rfl <| qF rfl rfl rfl fo35_0 <| qL rfl rfl rfl rfl ta3 rfl <| qC rfl rfl rfl rfl rfl <| qP rfl rfl rfl rfl <| qN ?_
 refine mwp_cond_split rfl (fun h10 => ?_) (fun h10 => ?_)
 ·
  have hk : ¬ k = 5 := by simpa using h10
  have hbot : BottomF (.mk k ins) = noV := by unfold BottomF; rw [if_pos his, bottomF, if_neg hk]
  refine mwp_seq <| qR rfl <| qO rfl <| op_build rfl Tryz.underlying28 zm28 .nil (by kernel_rfl) ?_
  refine qO rfl <| op_store' rfl rfl rfl rfl sz28 rfl rfl (Nat.le_of_ble_eq_true rfl) rfl <| qN <| mwp_ret ?_
  rw [hbot]
  exact ret_cell (y := encV (noV)) (.inr rfl) Tryz.results33 rfl rfl ta28 rfl (.agg (.cons (.refl _) (.cons (.refl _) (.cons (.nil _) (.cons (.nil _) (.cons (.nil _) .nil)))))) (cl_encV _ _) ⟨rfl, rfl⟩
 ·
  have hk : k = 5 := by simpa using h10
  subst hk
  obtain ⟨⟨k1, i1⟩, ⟨k2, i2⟩, rfl⟩ := two_of hd.1
  have his1 := isF_le (by omega : d ≤ 16) (hd.2 (.mk k1 i1) (by simp))
  have his2 := isF_le (by omega : d ≤ 16) (hd.2 (.mk k2 i2) (by simp))
  obtain ⟨⟨n1, m1, s1, c1, w1⟩, e1⟩ : ∃ v, BottomF (.mk k1 i1) = v := ⟨_, rfl⟩
  obtain ⟨⟨n2, m2, s2, c2, w2⟩, e2⟩ : ∃ v, BottomF (.mk k2 i2) = v := ⟨_, rfl⟩
  have ih1 := ih (by omega) (.mk k1 i1) (hd.2 _ (by simp))
  have ih2 := ih (by omega) (.mk k2 i2) (hd.2 _ (by simp))
  simp only [e1] at ih1
  simp only [e2] at ih2
  have hbot : BottomF (.mk 5 [.mk k1 i1, .mk k2 i2]) = .mk 0 0 [] [] [.mk n1 m1 s1 c1 w1, .mk n2 m2 s2 c2 w2] := by
   unfold BottomF at e1 e2 ⊢
   rw [if_pos his1] at e1
   rw [if_pos his2] at e2
   rw [if_pos his, bottomF, if_pos rfl, bottomL, bottomL, bottomL, e1, e2]
  refine mwp_skip <| mwp_seq ?_
  refine mwp_draw [12] [_, S ++ [.cells (encS (.mk 5 [.mk k1 i1, .mk k2 i2])).cells, .cells [.int .u64 0, .int .u64 0, .lst0, .lst0, .lst none 5 [encV (.mk n1 m1 s1 c1 w1), encV (.mk n2 m2 s2 c2 w2)]]]] mo (by decide) rfl rfl rfl rfl ?_
  refine dO rfl rfl rfl (op_fieldAddr_ref rfl rfl fo35_1 ⟨rfl, rfl⟩) <| dO rfl rfl rfl (op_load' rfl rfl rfl ta33 rfl ⟨rfl, rfl⟩) <| dO rfl rfl rfl (op_indexAddr rfl Tryz.underlying33 sz35 (by decide) rfl rfl rfl (show _ = some (encS (.mk k1 i1)) from rfl) ⟨rfl, rfl⟩) ?_
  refine dO rfl rfl rfl (op_load_sptr rfl rfl ta35 rfl ⟨rfl, rfl⟩) <| dOps_op rfl rfl (.cons (op_call rfl rfl rfl co33 (ih1 _)) .nil) <| dO rfl rfl rfl (op_fieldAddr_ref rfl rfl fo35_1 ⟨rfl, rfl⟩) <| dO rfl rfl rfl (op_load' rfl rfl rfl ta33 rfl ⟨rfl, rfl⟩) <| dO rfl rfl rfl (op_indexAddr rfl Tryz.underlying33 sz35 (by decide) rfl rfl rfl (show _ = some (encS (.mk k2 i2)) from rfl) ⟨rfl, rfl⟩) ?_
  refine dO rfl rfl rfl (op_load_sptr rfl rfl ta35 rfl ⟨rfl, rfl⟩) <| dOps_op rfl rfl (.cons (op_call rfl rfl rfl co33 (ih2 _)) .nil) <| dO rfl rfl rfl (op_buildSlice rfl Tryz.underlying26 el28 rfl rfl (by decide) (by decide) rfl rfl ⟨rfl, rfl⟩) ?_
  refine dO rfl rfl rfl (op_build rfl Tryz.underlying28 zm28 (.cons fo28_4 sz26 rfl rfl (Nat.le_of_ble_eq_true rfl) .nil) (by kernel_rfl) ⟨rfl, rfl⟩) ?_
  refine dOps_eff rfl rfl rfl rfl (op_store' rfl rfl rfl rfl sz28 rfl rfl (Nat.le_of_ble_eq_true rfl) rfl ⟨rfl, rfl⟩) <| dOps_nil <| mwp_ret ?_
  rw [hbot]
  exact ret_cell (y := encV (.mk 0 0 [] [] [.mk n1 m1 s1 c1 w1, .mk n2 m2 s2 c2 w2])) (.inr rfl) Tryz.results33 rfl rfl ta28 rfl (.agg (.cons (.refl _) (.cons (.refl _) (.cons (.nil _) (.cons (.nil _) (.cons (.refl _) .nil)))))) (cl_encV _ _) ⟨rfl, rfl⟩
theorem rBottom_spec (s : Sch) (S : MS) : MCalls Tryz.prog 33 [encS s] S fun v σ' => v = encV (BottomF s) ∧ σ' = S := by
 by_cases h : isF 16 s = true
 ·exact rBottomV_spec 16 (by omega) s h S
 ·obtain ⟨k, ins⟩ := s
  replace h : isF 16 (.mk k ins) = false := by simpa using h
  have hbot : BottomF (.mk k ins) = noV := by unfold BottomF; rw [if_neg (by simp [h])]
  refine mcalls_body Tryz.func33 rfl Tryz.ntmps33 (Nat.le_of_ble_eq_true rfl) ?_
  refine mwp_seq <| qR rfl <| qB rfl rfl rfl rfl rfl <| qO rfl <| op_alloc' rfl zm28 rfl rfl <| qN <| mwp_seq <| mwp_seq <| qR rfl <| qL rfl rfl rfl rfl ta35 rfl ?_
  refine wOps_op rfl (op_call rfl rfl rfl co28 ((rIsSchema_spec (.mk k ins) _).mono ?_))
  rintro _ _ ⟨rfl, rfl⟩
  rw [h]
  refine qO rfl <| op_not rfl rfl <| qM rfl rfl rfl <| qS rfl <| qS rfl <| qS rfl <| qP rfl rfl rfl rfl <| qN <| mwp_cond_t rfl (rfl) <| mwp_seq <| qR rfl <| qO rfl <| op_build rfl Tryz.underlying28 zm28 .nil (by kernel_rfl) ?_
  refine qO rfl <| op_store' rfl rfl rfl rfl sz28 rfl rfl (Nat.le_of_ble_eq_true rfl) rfl <| qN <| mwp_ret ?_
  rw [hbot]
  exact ret_cell (y := encV (noV)) (.inr rfl) Tryz.results33 rfl rfl ta28 rfl (.agg (.cons (.refl _) (.cons (.refl _) (.cons (.nil _) (.cons (.nil _) (.cons (.nil _) .nil)))))) (cl_encV _ _) ⟨rfl, rfl⟩
theorem rNone_spec (s : Sch) (x : Val) (S : MS) : MCalls Tryz.prog 21 [encS s, encV x] S fun v σ' => v = .bool (noneF s x) ∧ σ' = S := by
 obtain ⟨k, ins⟩ := s
 obtain ⟨n, m, s, c, w⟩ := x
 refine mcalls_body Tryz.func21 rfl Tryz.ntmps21 (Nat.le_of_ble_eq_true rfl) ?_
 refine mwp_seq <| qR rfl <| qB rfl rfl rfl rfl rfl <| qB rfl rfl rfl rfl rfl <| qA rfl rfl rfl <| qN <| mwp_seq ?_
 refine mwp_draw [] [_] mo (by decide) rfl rfl rfl rfl ?_
 refine dO rfl rfl rfl (op_load' rfl rfl rfl ta28 rfl ⟨rfl, rfl⟩) <| dO rfl rfl rfl (op_load' rfl rfl rfl ta35 rfl ⟨rfl, rfl⟩) <| dOps_op rfl rfl (.cons (op_call rfl rfl rfl co33 (rBottom_spec (.mk k ins) _)) .nil) <| dOps_op rfl rfl (.cons (op_call rfl rfl rfl co15 (rSame_spec (.mk n m s c w) (BottomF (.mk k ins)) _)) .nil) <| dO rfl rfl rfl (op_assign rfl rfl ⟨rfl, rfl⟩) <| dOps_nil <| mwp_ret ?_
 exact ret_tmp (.inr rfl) Tryz.results21 rfl (.of_eq (by unfold noneF; congr 1; rw [Bool.eq_iff_iff]; simp only [decide_eq_true_eq]; exact eq_comm)) (.bool _) ⟨rfl, rfl⟩
end Go.Proofs.YtihpnfpdocnniaaGreat
end
section
set_option linter.unusedVariables false
set_option linter.unusedSimpArgs false
set_option maxRecDepth 20000
set_option maxHeartbeats 400000
namespace Go.Proofs.YtihpnfpdocnniaaGreat
open Go Go.MV
theorem bottom_is : ∀ (d : Nat) (s : Sch), isF d s = true → isVF s (bottomF s) = true ∧ okV (bottomF s)
 | 0, s, h => by simp [isF] at h
 | d + 1, .mk k ins, h => by
  rw [isF] at h
  simp only [Bool.and_eq_true, List.all_eq_true, beq_iff_eq] at h
  by_cases h5 : k = 5
  ·subst h5
   obtain ⟨a, b, rfl⟩ := two_of h.1
   obtain ⟨h1, h2⟩ := bottom_is d a (h.2 a (by simp))
   obtain ⟨h3, h4⟩ := bottom_is d b (h.2 b (by simp))
   rw [bottomF, if_pos rfl, bottomL, bottomL, bottomL]
   refine ⟨?_, ?_⟩
   ·rw [isVF_mk 5]
    simp [isVL, h1, h3, bareF, numsK, textsK, clocksK, valuesK, Val.nv, Val.mv, Val.sv, Val.cv, Val.vv]
   ·simp [okV, okVs, h2, h4]
  ·rw [bottomF, if_neg h5]
   refine ⟨?_, by simp [noV, okV, okVs]⟩
   have hk := k8_of h.1
   unfold noV
   rw [isVF_mk k]
   rcases hk with rfl | rfl | rfl | rfl | rfl | rfl | rfl | rfl
   ·rfl
   ·rfl
   ·rfl
   ·simp [bareF, numsK, textsK, clocksK, valuesK, Val.nv, Val.mv, Val.sv, Val.cv, Val.vv, isRowF, risesF, shortF]
   ·exact absurd rfl h5
   ·rfl
   ·rfl
   ·simp [bareF, numsK, textsK, clocksK, valuesK, Val.nv, Val.mv, Val.sv, Val.cv, Val.vv, isCauseF, pairsF]
end Go.Proofs.YtihpnfpdocnniaaGreat
end
section
set_option linter.unusedVariables false
set_option linter.unusedSimpArgs false
set_option maxRecDepth 20000
set_option maxHeartbeats 400000
namespace Go.Proofs.YtihpnfpdocnniaaGreat
open Go Go.MV
theorem join_err {s : Sch} {a b : Val} (h : ¬ ((isF 16 s && isVF s a) = true ∧ (isF 16 s && isVF s b) = true)) : joinVF s a b = .error 14 := by unfold joinVF; rw [if_neg h]
theorem join_both {s : Sch} {a b : Val} (ha : (isF 16 s && isVF s a) = true) (hb : (isF 16 s && isVF s b) = true) : encJ (joinVF s a b) = encO (bothF s a b) := by
 unfold joinVF
 rw [if_pos ⟨ha, hb⟩]
 cases bothF s a b <;> rfl
theorem okV_no : okV noV := by simp [okV, okVs, noV]
theorem okV_join {s : Sch} {a b v : Val} (ha : okV a) (hb : okV b) (h : joinVF s a b = .ok v) : okV v := by
 unfold joinVF at h
 split at h
 ·rename_i hh
  rw [Bool.and_eq_true] at hh
  cases hO : bothF s a b with
  | none => rw [hO] at h; cases h
  | some u => rw [hO] at h; injection h with h; subst h; exact okV_both 16 s hh.1.1 a b u ha hb hO
 ·cases h
noncomputable def accA (s : Sch) (b : Val) (l : List Val) : Nat → Val
 | 0 => b
 | j + 1 => match joinVF s (accA s b l j) (l.getD j noV) with | .ok v => v | .error _ => noV
noncomputable def okA (s : Sch) (b : Val) (l : List Val) (j : Nat) : Bool := match joinVF s (accA s b l j) (l.getD j noV) with | .ok _ => true | .error _ => false
noncomputable def errA (s : Sch) (b : Val) (l : List Val) (j : Nat) : Int := match joinVF s (accA s b l j) (l.getD j noV) with | .ok _ => 0 | .error e => e
noncomputable def allGo (s : Sch) : Val → List Val → Except Int Val
 | acc, [] => .ok acc
 | acc, x :: l => match joinVF s acc x with | .ok v => allGo s v l | .error e => .error e
noncomputable def AllF (s : Sch) (l : List Val) : Except Int Val := if isF 16 s then allGo s (BottomF s) l else .error 14
theorem getD_at {l : List Val} {j : Nat} {x : Val} (h : l[j]? = some x) : l.getD j noV = x := by simp [h]
theorem okA_iff {s : Sch} {b : Val} {l : List Val} {j : Nat} {x : Val} (hx : l[j]? = some x) (h : okA s b l j = true) : joinVF s (accA s b l j) x = .ok (accA s b l (j + 1)) := by
 rw [okA, getD_at hx] at h
 rw [accA, getD_at hx]
 cases hj : joinVF s (accA s b l j) x with
 | ok v => rfl
 | error e => rw [hj] at h; cases h
theorem all_at {s : Sch} {b : Val} {l : List Val} : ∀ {j : Nat}, j ≤ l.length → (∀ i, i < j → okA s b l i = true) → allGo s b l = allGo s (accA s b l j) (l.drop j)
 | 0, _, _ => rfl
 | j + 1, hj, h => by
  obtain ⟨x, hx⟩ : ∃ x, l[j]? = some x := ⟨_, List.getElem?_eq_getElem (by omega)⟩
  rw [all_at (j := j) (by omega) fun i hi => h i (by omega), drop_at hx, allGo, okA_iff hx (h j (by omega))]
theorem all_ok {s : Sch} {b : Val} {l : List Val} (h : ∀ i, i < l.length → okA s b l i = true) : allGo s b l = .ok (accA s b l l.length) := by
 rw [all_at (Nat.le_refl _) h, List.drop_length]; rfl
theorem first_no (p : Nat → Bool) : ∀ n, p n = false → ∃ m, m ≤ n ∧ p m = false ∧ ∀ i, i < m → p i = true
 | 0, h => ⟨0, Nat.le_refl _, h, fun i hi => by omega⟩
 | n + 1, h => by
  by_cases hq : ∀ i, i < n + 1 → p i = true
  ·exact ⟨n + 1, Nat.le_refl _, h, hq⟩
  ·obtain ⟨i, hi, hp⟩ : ∃ i, i < n + 1 ∧ p i = false := by
    rcases Classical.not_forall.1 hq with ⟨i, hq⟩
    exact ⟨i, Classical.not_imp.1 hq |>.1, by simpa using (Classical.not_imp.1 hq).2⟩
   obtain ⟨m, h1, h2, h3⟩ := first_no p i hp
   exact ⟨m, by omega, h2, h3⟩
theorem all_bad {s : Sch} {b : Val} {l : List Val} {j : Nat} {x : Val} (hx : l[j]? = some x) (hb : ∀ i, i < j → okA s b l i = true) (h : okA s b l j = false) : allGo s b l = .error (errA s b l j) := by
 have hj := (List.getElem?_eq_some_iff.1 hx).1
 rw [all_at (j := j) (by omega) hb, drop_at hx, allGo, errA, getD_at hx]
 rw [okA, getD_at hx] at h
 cases hq : joinVF s (accA s b l j) x with
 | ok v => rw [hq] at h; cases h
 | error e => rfl
noncomputable def errF (s : Sch) (b : Val) (l : List Val) : Int := match allGo s b l with | .ok _ => 0 | .error e => e
theorem errF_eq {s : Sch} {b : Val} {l : List Val} {j : Nat} {x : Val} (hx : l[j]? = some x) (hb : ∀ i, i < j → okA s b l i = true) (h : okA s b l j = false) : errF s b l = errA s b l j := by rw [errF, all_bad hx hb h]
theorem all_badF {s : Sch} {b : Val} {l : List Val} {j : Nat} {x : Val} (hx : l[j]? = some x) (h : okA s b l j = false) : allGo s b l = .error (errF s b l) := by
 obtain ⟨m, hm, hp, hbm⟩ := first_no _ j h
 have hj := (List.getElem?_eq_some_iff.1 hx).1
 obtain ⟨y, hy⟩ : ∃ y, l[m]? = some y := ⟨_, List.getElem?_eq_getElem (by omega)⟩
 rw [errF, all_bad hy hbm hp]
theorem accA_ok {s : Sch} {b : Val} {l : List Val} (hb : okV b) (hl : ∀ x ∈ l, okV x) : ∀ j, j ≤ l.length → (∀ i, i < j → okA s b l i = true) → okV (accA s b l j)
 | 0, _, _ => hb
 | j + 1, hj, h => by
  obtain ⟨x, hx⟩ : ∃ x, l[j]? = some x := ⟨_, List.getElem?_eq_getElem (by omega)⟩
  exact okV_join (accA_ok hb hl j (by omega) fun i hi => h i (by omega)) (hl x (List.mem_of_getElem? hx)) (okA_iff hx (h j (by omega)))
theorem get_box4 {A R : MS} {a b c d a' b' c' d' e : MObj} : ((A ++ [a, b, c, d, e]) ++ R)[(A ++ [a', b', c', d']).length]? = some e := by rw [List.length_append, List.append_assoc, getElem?_own]; rfl
theorem okV_bottom (s : Sch) : okV (BottomF s) := by
 unfold BottomF
 split
 ·rename_i h; exact (bottom_is 16 s h).2
 ·exact okV_no
theorem all_cl {s : Sch} {v : Val} {l : List Val} {e : MV} {o : MObj} {d : Nat} (he : Cl d e) (ho : o ∈ [MObj.cells (encS s).cells, .cells [.int .u64 0, .int .u64 0, .lst0, .lst0, .lst0], .cells [e], .cells (encV v).cells, .cells [.lst none 5 (encVs l)]]) : o.cl d := by
 simp only [List.mem_cons, List.not_mem_nil, or_false] at ho
 rcases ho with rfl | rfl | rfl | rfl | rfl
 ·exact clo_S _ _
 ·exact clo_Z _
 ·exact clo_1 he
 ·exact clo_V _ _
 ·exact clo_1 (cl_encVl _ _)
theorem join_spec (s : Sch) (a b : Val) (ha : okV a) (hb : okV b) (S : MS) : MCalls Tryz.prog 11 [encS s, encV a, encV b] S fun v σ' => v = encJ (joinVF s a b) ∧ σ' = S := by
 obtain ⟨k, ins⟩ := s
 obtain ⟨n1, m1, s1, c1, w1⟩ := a
 obtain ⟨n2, m2, s2, c2, w2⟩ := b
 refine mcalls_body Tryz.func11 rfl Tryz.ntmps11 (Nat.le_of_ble_eq_true rfl) ?_
 refine mwp_seq <| qR rfl <| qB rfl rfl rfl rfl rfl <| qB rfl rfl rfl rfl rfl <| qB rfl rfl rfl rfl rfl <| qO rfl <| op_alloc' rfl zm28 rfl rfl <| qA rfl rfl rfl <| qN <| mwp_seq <| mwp_seq <| qR rfl <| qL rfl rfl rfl rfl ta35 rfl <| qL rfl rfl rfl rfl ta28 rfl ?_
 refine wOps_op rfl (op_call rfl rfl rfl co22 ((valIs_spec (.mk k ins) (.mk n1 m1 s1 c1 w1) ha _).mono ?_))
 rintro _ _ ⟨rfl, rfl⟩
 refine qO rfl <| op_not rfl rfl <| qM rfl rfl rfl ?_
 refine wOps_case (fun h12 => ?_) (fun h12 => ?_)
 ·
  refine qS rfl <| qS rfl <| qS rfl <| qS rfl <| qP rfl rfl rfl rfl <| qN <| mwp_cond_t rfl (rfl) <| mwp_seq <| qR rfl <| qO rfl <| op_build rfl Tryz.underlying28 zm28 .nil (by kernel_rfl) ?_
  refine qO rfl <| op_makeInterface rfl rfl Tryz.underlying38 (by simp) ?_
  refine qO rfl <| op_store' rfl rfl rfl rfl sz28 rfl rfl (Nat.le_of_ble_eq_true rfl) rfl <| qA rfl rfl rfl <| qN <| mwp_ret ?_
  exact ret_cell_tmp (.inr rfl) Tryz.results11 rfl rfl ta28 rfl (.agg (.cons (.refl _) (.cons (.refl _) (.cons (.nil 1) (.cons (.nil 1) (.cons (.nil 5) .nil)))))) (cl_encV _ (noV)) rfl (.refl _) (.iface _ _ (.int _ _)) ⟨by rw [join_err (fun hq => by first | (rw [hq.1] at h12; exact absurd h12 (by decide)) | (rw [hq.2] at h17; exact absurd h17 (by decide)))]; rfl, rfl⟩
 ·
  refine qL rfl rfl rfl rfl ta35 rfl <| qL rfl rfl rfl rfl ta28 rfl ?_
  refine wOps_op rfl (op_call rfl rfl rfl co22 ((valIs_spec (.mk k ins) (.mk n2 m2 s2 c2 w2) hb _).mono ?_))
  rintro _ _ ⟨rfl, rfl⟩
  refine qO rfl <| op_not rfl rfl <| qP rfl rfl rfl rfl <| qN ?_
  refine mwp_cond_split rfl (fun h17 => ?_) (fun h17 => ?_)
  ·
   refine mwp_seq <| qR rfl <| qO rfl <| op_build rfl Tryz.underlying28 zm28 .nil (by kernel_rfl) ?_
   refine qO rfl <| op_makeInterface rfl rfl Tryz.underlying38 (by simp) ?_
   refine qO rfl <| op_store' rfl rfl rfl rfl sz28 rfl rfl (Nat.le_of_ble_eq_true rfl) rfl <| qA rfl rfl rfl <| qN <| mwp_ret ?_
   exact ret_cell_tmp (.inr rfl) Tryz.results11 rfl rfl ta28 rfl (.agg (.cons (.refl _) (.cons (.refl _) (.cons (.nil 1) (.cons (.nil 1) (.cons (.nil 5) .nil)))))) (cl_encV _ (noV)) rfl (.refl _) (.iface _ _ (.int _ _)) ⟨by rw [join_err (fun hq => by first | (rw [hq.1] at h12; exact absurd h12 (by decide)) | (rw [hq.2] at h17; exact absurd h17 (by decide)))]; rfl, rfl⟩
  ·
   refine mwp_skip <| mwp_seq ?_
   have ha2 : (isF 16 (.mk k ins) && isVF (.mk k ins) (.mk n1 m1 s1 c1 w1)) = true := by simpa using h12
   have hb2 : (isF 16 (.mk k ins) && isVF (.mk k ins) (.mk n2 m2 s2 c2 w2)) = true := by simpa using h17
   have hof := both_spec 16 (.mk k ins) (by rw [Bool.and_eq_true] at ha2; exact ha2.1) (.mk n1 m1 s1 c1 w1) (.mk n2 m2 s2 c2 w2) (by rw [Bool.and_eq_true] at ha2; exact ha2.2) (by rw [Bool.and_eq_true] at hb2; exact hb2.2)
   obtain ⟨n3, m3, s3, c3, w3, h3⟩ := encO_of (bothF (.mk k ins) (.mk n1 m1 s1 c1 w1) (.mk n2 m2 s2 c2 w2))
   have hO : encO (bothF (.mk k ins) (.mk n1 m1 s1 c1 w1) (.mk n2 m2 s2 c2 w2)) = .tup [encV (.mk n3 m3 s3 c3 w3), errO (bothF (.mk k ins) (.mk n1 m1 s1 c1 w1) (.mk n2 m2 s2 c2 w2))] := by rw [encO, h3]
   rw [hO] at hof
   refine qR rfl <| qL rfl rfl rfl rfl ta35 rfl <| qL rfl rfl rfl rfl ta28 rfl <| qL rfl rfl rfl rfl ta28 rfl ?_
   refine wOps_op rfl (op_call rfl rfl rfl co23 ((hof _).mono ?_))
   rintro _ _ ⟨rfl, rfl⟩
   refine qO rfl <| op_extract rfl rfl rfl <| qO rfl <| op_extract rfl rfl rfl <| qO rfl <| op_store' rfl rfl rfl rfl sz28 rfl rfl (Nat.le_of_ble_eq_true rfl) rfl <| qA rfl rfl rfl <| qN <| mwp_ret ?_
   exact ret_cell_tmp (.inr rfl) Tryz.results11 rfl rfl ta28 rfl (.refl _) (cl_encV _ (.mk n3 m3 s3 c3 w3)) rfl (.refl _) ((cl_errO _ _)) ⟨by rw [join_both ha2 hb2, hO]; rfl, rfl⟩
theorem joinAll_spec (s : Sch) (l : List Val) (hl : ∀ x ∈ l, okV x) (S : MS) : MCalls Tryz.prog 20 [encS s, .lst none 5 (encVs l)] S fun v σ' => v = encJ (AllF s l) ∧ σ' = S := by
 obtain ⟨k, ins⟩ := s
 obtain ⟨⟨bn, bm, bs, bc, bw⟩, hbe⟩ : ∃ v, BottomF (.mk k ins) = v := ⟨_, rfl⟩
 have hbo := okV_bottom (.mk k ins)
 rw [hbe] at hbo
 have hbs := Bottom_spec (.mk k ins)
 rw [hbe] at hbs
 refine mcalls_body Tryz.func20 rfl Tryz.ntmps20 (Nat.le_of_ble_eq_true rfl) ?_
 refine mwp_seq <| qR rfl <| qB rfl rfl rfl rfl rfl <| qO rfl <| op_alloc' rfl zm28 rfl rfl <| qO rfl <| op_alloc' rfl zm30 rfl rfl <| qN <| mwp_seq <| mwp_seq <| qR rfl <| qL rfl rfl rfl rfl ta35 rfl ?_
 refine wOps_op rfl (op_call rfl rfl rfl co30 ((Is_spec (.mk k ins) _).mono ?_))
 rintro _ _ ⟨rfl, rfl⟩
 refine qO rfl <| op_not rfl rfl <| qN ?_
 refine mwp_cond_split rfl (fun h12 => ?_) (fun h12 => ?_)
 ·
  have hk : isF 16 (.mk k ins) = false := by simpa using h12
  refine mwp_seq <| qR rfl <| qO rfl <| op_build rfl Tryz.underlying28 zm28 .nil (by kernel_rfl) ?_
  refine qO rfl <| op_makeInterface rfl rfl Tryz.underlying38 (by simp) ?_
  refine qO rfl <| op_store' rfl rfl rfl rfl sz28 rfl rfl (Nat.le_of_ble_eq_true rfl) rfl <| qO rfl <| op_store' rfl rfl rfl rfl sz30 rfl rfl (Nat.le_of_ble_eq_true rfl) rfl <| qN <| mwp_ret ?_
  exact ret_cell_cell (.inr rfl) Tryz.results20 rfl rfl ta28 rfl (.agg (.cons (.refl _) (.cons (.refl _) (.cons (.nil 1) (.cons (.nil 1) (.cons (.nil 5) .nil)))))) (cl_encV _ (noV)) rfl rfl ta30 rfl (.refl _) (.iface _ _ (.int _ _)) ⟨by rw [show AllF (.mk k ins) l = .error 14 from by unfold AllF; rw [if_neg (by rw [hk]; decide)]]; rfl, rfl⟩
 ·
  have hk : isF 16 (.mk k ins) = true := by simpa using h12
  have hAF : AllF (.mk k ins) l = allGo (.mk k ins) (.mk bn bm bs bc bw) l := by unfold AllF; rw [if_pos hk, hbe]
  refine mwp_skip <| mwp_seq <| qR rfl <| qL rfl rfl rfl rfl ta35 rfl ?_
  refine wOps_op rfl (op_call rfl rfl rfl co31 ((hbs _).mono ?_))
  rintro _ _ ⟨rfl, rfl⟩
  refine qO rfl <| op_alloc' rfl zm28 rfl rfl <| qO rfl <| op_store' rfl rfl rfl rfl sz28 rfl rfl (Nat.le_of_ble_eq_true rfl) rfl <| qN <| mwp_seq <| mwp_seq <| qR rfl <| qM rfl rfl rfl ?_
  refine wOps_op rfl (op_call rfl rfl rfl co32 ((values_spec l _).mono ?_))
  rintro _ _ ⟨rfl, rfl⟩
  rw [List.append_assoc S]
  refine qN <| mwp_block ?_
  refine mwp_len (t := 1) rfl fun hlen => ?_
  rw [encVs_length] at hlen
  refine mwp_rangeB (ok := fun σ => σ.length = S.length + 6 ∧ σ[(S ++ [MObj.cells (encS (.mk k ins)).cells, MObj.cells [.int .u64 0, .int .u64 0, .lst0, .lst0, .lst0], MObj.cells [.iface0], .cells (encV (.mk bn bm bs bc bw)).cells]).length]? = some (.cells [.lst none 5 (encVs l)])) (ys := l.map fun x => [encV x]) .ret (.inl rfl) (fun j => okA (.mk k ins) (.mk bn bm bs bc bw) l j) (fun j => ([.cells (encS (.mk k ins)).cells, .cells [.int .u64 0, .int .u64 0, .lst0, .lst0, .lst0], .cells [.iface0], .cells (encV (accA (.mk k ins) (.mk bn bm bs bc bw) l j)).cells, .cells [.lst none 5 (encVs l)]] : MS)) (fun j => ([.cells (encS (.mk k ins)).cells, .cells [.int .u64 0, .int .u64 0, .lst0, .lst0, .lst0], .cells [encErr (errF (.mk k ins) (.mk bn bm bs bc bw) l)], .cells (encV (accA (.mk k ins) (.mk bn bm bs bc bw) l j)).cells, .cells [.lst none 5 (encVs l)]] : MS)) (fun j => rfl) (fun j => rfl) rfl (fun j o ho n hn => all_cl .iface0 ho) (fun j o ho n hn => all_cl (.iface _ _ (.int _ _)) ho) rfl co49 rfl (by simp) (values_iter l hlen _ _) (fun j => ⟨by simp only [List.length_append, List.length_cons, List.length_nil], get_box4⟩) (fun j s q => ⟨by simp only [List.length_append, List.length_cons, List.length_nil], get_box4⟩) rfl (fun y hy => by obtain ⟨i, _, rfl⟩ := List.mem_map.1 hy; rfl) ?_ ?_ ?_
  ·
   intro j y hy hbef L'
   rw [List.getElem?_map] at hy
   obtain ⟨⟨n1, m1, s1, c1, w1⟩, hs, rfl⟩ := Option.map_eq_some_iff.1 hy
   have hjl := (List.getElem?_eq_some_iff.1 hs).1
   have hov := accA_ok (s := .mk k ins) hbo hl j (by omega) hbef
   obtain ⟨⟨n2, m2, s2, c2, w2⟩, hacc⟩ : ∃ v, accA (.mk k ins) (.mk bn bm bs bc bw) l j = v := ⟨_, rfl⟩
   rw [hacc] at hov
   have hof := join_spec (.mk k ins) _ _ hov (hl _ (List.mem_of_getElem? hs))
   have hD := getD_at hs
   simp only [hacc]
   refine qR rfl <| qO rfl <| op_alloc rfl zm28 <| qO rfl <| op_store_last rfl rfl rfl sz28 rfl rfl (Nat.le_of_ble_eq_true rfl) <| qN ?_
   refine ⟨rfl, [_], rfl, ?_⟩
   rw [List.append_assoc (S ++ _)]
   refine mwp_abs fun R hR => ?_
   refine mwp_block <| mwp_seq ?_
   rcases hj : joinVF (.mk k ins) (.mk n2 m2 s2 c2 w2) (.mk n1 m1 s1 c1 w1) with e | ⟨n3, m3, s3, c3, w3⟩ <;> rw [hj] at hof
   ·
    refine qR rfl <| qO rfl <| op_load_mid rfl rfl rfl ta35 rfl <| qO rfl <| op_load_mid rfl rfl rfl ta28 rfl <| qO rfl <| op_load_ref rfl rfl (by rw [hR]; exact get_rt) ta28 rfl ?_
    refine wOps_op rfl (op_call rfl rfl rfl co11 ((hof _).mono ?_))
    rintro _ _ ⟨rfl, rfl⟩
    refine qM rfl rfl rfl <| qO rfl <| op_extract rfl rfl rfl <| qO rfl <| op_extract rfl rfl rfl <| qO rfl <| op_alloc rfl zm28 <| qO rfl <| op_store_last rfl rfl rfl sz28 rfl rfl (Nat.le_of_ble_eq_true rfl) <| qA rfl rfl rfl <| qN <| mwp_seq <| mwp_seq <| qR rfl <| qM rfl rfl rfl <| qO rfl <| op_ifnil rfl Tryz.underlying30 rfl rfl (.inr ⟨rfl, rfl⟩) <| qN <| mwp_cond_t rfl (rfl) <| mwp_seq ?_
    rw [List.append_assoc (S ++ _)]
    refine qR rfl <| qO rfl <| op_build rfl Tryz.underlying28 zm28 .nil (by kernel_rfl) ?_
    refine qM rfl rfl rfl <| qO rfl <| op_store_mid rfl rfl rfl rfl sz28 rfl rfl (Nat.le_of_ble_eq_true rfl) rfl <| qO rfl <| op_store_mid rfl rfl rfl rfl sz30 rfl rfl (Nat.le_of_ble_eq_true rfl) rfl <| qN <| mwp_ret ?_
    exact .inr ⟨by rw [okA, hacc, hD, hj], rfl, [_, _], by rw [hR, show errF (.mk k ins) (.mk bn bm bs bc bw) l = e from by rw [errF_eq hs hbef (by rw [okA, hacc, hD, hj]), errA, hacc, hD, hj]]; simp only [List.append_assoc, List.cons_append, List.nil_append]; rfl⟩
   ·
    refine qR rfl <| qO rfl <| op_load_mid rfl rfl rfl ta35 rfl <| qO rfl <| op_load_mid rfl rfl rfl ta28 rfl <| qO rfl <| op_load_ref rfl rfl (by rw [hR]; exact get_rt) ta28 rfl ?_
    refine wOps_op rfl (op_call rfl rfl rfl co11 ((hof _).mono ?_))
    rintro _ _ ⟨rfl, rfl⟩
    refine qM rfl rfl rfl <| qO rfl <| op_extract rfl rfl rfl <| qO rfl <| op_extract rfl rfl rfl <| qO rfl <| op_alloc rfl zm28 <| qO rfl <| op_store_last rfl rfl rfl sz28 rfl rfl (Nat.le_of_ble_eq_true rfl) <| qA rfl rfl rfl <| qN <| mwp_seq <| mwp_seq <| qR rfl <| qM rfl rfl rfl <| qO rfl <| op_if0 rfl Tryz.underlying30 rfl rfl (.inr ⟨rfl, rfl⟩) <| qN <| mwp_cond_f rfl (rfl) <| mwp_skip ?_
    rw [List.append_assoc (S ++ _)]
    refine qR rfl <| qO rfl <| op_load_ref rfl rfl (get_end (by simp)) ta28 rfl ?_
    refine qO rfl <| op_store_mid rfl rfl rfl rfl sz28 rfl rfl (Nat.le_of_ble_eq_true rfl) rfl <| qN ?_
    exact .inl ⟨by rw [okA, hacc, hD, hj], rfl, [_, _], by rw [hR, show accA (.mk k ins) (.mk bn bm bs bc bw) l (j + 1) = .mk n3 m3 s3 c3 w3 from by rw [accA, hacc, hD, hj]]; simp only [List.append_assoc, List.cons_append, List.nil_append]; rfl⟩
  ·
   intro hall
   rw [List.append_assoc S, List.length_map]
   have hok := all_ok (s := .mk k ins) (b := (.mk bn bm bs bc bw)) (l := l) (fun i hi => hall i (by rw [List.length_map]; exact hi))
   obtain ⟨⟨n2, m2, s2, c2, w2⟩, hacc⟩ : ∃ v, accA (.mk k ins) (.mk bn bm bs bc bw) l l.length = v := ⟨_, rfl⟩
   rw [hacc] at hok
   simp only [hacc]
   refine mwp_seq <| qR rfl <| qL rfl rfl rfl rfl ta28 rfl <| qO rfl <| op_store' rfl rfl rfl rfl sz28 rfl rfl (Nat.le_of_ble_eq_true rfl) rfl <| qO rfl <| op_store' rfl rfl rfl rfl sz30 rfl rfl (Nat.le_of_ble_eq_true rfl) rfl <| qN <| mwp_ret ?_
   exact ret_cell_cell (.inr rfl) Tryz.results20 rfl rfl ta28 rfl (.refl _) (cl_encV _ (.mk n2 m2 s2 c2 w2)) rfl rfl ta30 rfl (.refl _) (.iface0) ⟨by rw [hAF, hok]; rfl, rfl⟩
  ·
   intro j y hy hp
   rw [List.append_assoc S]
   rw [List.getElem?_map] at hy
   obtain ⟨x, hs, rfl⟩ := Option.map_eq_some_iff.1 hy
   exact ret_cell_cell (.inr rfl) Tryz.results20 rfl rfl ta28 rfl (.agg (.cons (.refl _) (.cons (.refl _) (.cons (.nil 1) (.cons (.nil 1) (.cons (.nil 5) .nil)))))) (cl_encV _ (noV)) rfl rfl ta30 rfl (.refl _) (.iface _ _ (.int _ _)) ⟨by rw [hAF, all_badF hs hp]; rfl, rfl⟩
end Go.Proofs.YtihpnfpdocnniaaGreat
end
section
set_option linter.unusedVariables false
set_option linter.unusedSimpArgs false
namespace Go.MV
open Go Go.RowKit
section
variable {P : Program} {rd : Option Nat} {o : Oper} {env : Env} {σ : MS} {K : MV → MS → Prop}
end
end Go.MV
end
section
set_option linter.unusedVariables false
set_option linter.unusedSimpArgs false
set_option maxRecDepth 20000
set_option maxHeartbeats 400000
namespace Go.Proofs.YtihpnfpdocnniaaGreat
open Go Go.MV
theorem clock_one {p x : Int} (hp : 0 ≤ p ∧ p ≤ 1000000) (hx : 0 < x) : isClockF [(p, x)] = true := by
 unfold isClockF
 rw [Bool.and_eq_true, decide_eq_true_iff, decide_eq_true_iff]
 refine ⟨fun j hj => ?_, by simp⟩
 have : j = 0 := by simp at hj; omega
 subst this
 simp [okAt]
 omega
theorem rem_nat (a b : Nat) : Int.tmod (a : Int) (b : Int) = ((a % b : Nat) : Int) := rfl
theorem u64_nat {m : Nat} (h : m < 18446744073709551616) : IntKind.u64.wrap (m : Int) = (m : Int) := wrap_u64 (by omega)
theorem u8_cv {m : Nat} (h : m < 256) : IntKind.u8.wrap (m : Int) = ((UInt8.ofNat m).toNat : Int) := by
 have e : (UInt8.ofNat m).toNat = m := by simp [UInt8.toNat_ofNat']; omega
 rw [wrap_u8 (by omega), e]
end Go.Proofs.YtihpnfpdocnniaaGreat
end
section
set_option linter.unusedVariables false
set_option linter.unusedSimpArgs false
set_option maxHeartbeats 1000000
set_option maxRecDepth 20000
namespace Go.Proofs.YtihpnfpdocnniaaGreat
open Go Go.MV Go.RowKit Go.Extern.Stop Go.Extern
theorem tT (v : Value) (w : World) : (Extern.ReflectliteType.typeOf #[.iface 38 v]).run Tryz.prog w = .ok (.iface 71 (.agg #[.pointer (some ⟨Tryz.prog.globals.size, 38, none⟩)])) w := by kernel_rfl
theorem cT (w : World) : ((Extern.ReflectliteType.method fun t => do Extern.Rtype.noPackHeld "Comparable" t; pure (.bool (← typeInfo t).comparable)) #[.agg #[.pointer (some ⟨Tryz.prog.globals.size, 38, none⟩)]]).run Tryz.prog w = .ok (.bool true) w := by kernel_rfl
theorem mR (v : Value) (w : World) : (Go.method 279 71 v "Comparable").run Tryz.prog w = .ok (139, v) w := by kernel_rfl
theorem errComp : (Tryz.prog.info? 38).map (·.comparable) = some true := by kernel_rfl
theorem eqErr (n : Int) (w : World) : (binOp .eql 30 (.iface 38 (.int .i64 n)) (.iface 38 (.int .i64 n))).run Tryz.prog w = .ok (.bool true) w := by
  obtain ⟨i, hi, hcmp⟩ := Option.map_eq_some_iff.1 errComp
  have h : ∀ d : Nat, (Op.equalIn (d + 2) 30 (.iface 38 (.int .i64 n)) (.iface 38 (.int .i64 n))).run Tryz.prog w = .ok true w := fun d => by
    simp [Op.equalIn, run_underlying Tryz.underlying30, run_underlying Tryz.underlying38, typeInfo, hi, hcmp]
  simp only [binOp]
  simp [Op.equal, Op.maxDepth, h 9998]
theorem nilErr (v : Value) (w : World) : (binOp .eql 30 (.iface 38 v) .nilIface).run Tryz.prog w = .ok (.bool false) w := by
  have h : ∀ d : Nat, (Op.equalIn (d + 1) 30 (.iface 38 v) .nilIface).run Tryz.prog w = .ok false w := fun d => by simp [Op.equalIn, run_underlying Tryz.underlying30]
  simp only [binOp]
  simp [Op.equal, Op.maxDepth, h 9999]
theorem isSame (n : Int) (w : World) : Calls Tryz.prog 13 #[.iface 38 (.int .i64 n), .iface 38 (.int .i64 n)] w fun e w' => e = .returned (.bool true) ∧ w' = w := by
  have h8 := @run_callFunc_extern Tryz.prog 24 _ Extern.ReflectliteType.typeOf Tryz.func24 (by kernel_rfl) (by kernel_rfl) (by kernel_rfl) (by kernel_rfl)
  have h32 := @run_callFunc_extern Tryz.prog 139 _ (Extern.ReflectliteType.method fun t => do Extern.Rtype.noPackHeld "Comparable" t; pure (.bool (← typeInfo t).comparable)) Tryz.func139 (by kernel_rfl) (by kernel_rfl) (by kernel_rfl) (by kernel_rfl)
  obtain ⟨H, hT, hC⟩ : ∃ H : Value, (∀ (v : Value) (w : World), (callFunc 24 #[.iface 38 v]).run Tryz.prog w = .ok (.value (.iface 71 H)) w) ∧ (∀ w : World, (callFunc 139 #[H]).run Tryz.prog w = .ok (.value (.bool true)) w) := ⟨_, fun v w => by rw [h8, tT]; rfl, fun w => by rw [h32, cT]; rfl⟩
  clear h8 h32
  have mR := mR
  have heq := eqErr n w
  have hnil := nilErr (.int .i64 n) w
  go_enter Tryz.func13, Tryz.ntmps13
  go_wp2
  refine wp_loop_rounds 1 ?_
  rw [rounds_succ]
  go_wp2
  go_ret
  exact ⟨rfl, rfl⟩
theorem errIs_spec (n : Int) (S : MS) : MCalls Tryz.prog 13 [.iface 38 (.int .i64 n), .iface 38 (.int .i64 n)] S fun v σ' => v = .bool true ∧ σ' = S := by
  intro g w vs hrel hrd
  obtain ⟨u, us, rfl, h1, h2⟩ := hrd.uncons
  obtain ⟨u2, us2, rfl, h3, h4⟩ := h2.uncons
  obtain ⟨a, rfl, ha⟩ := h1.inv_iface
  obtain ⟨b, rfl, hb⟩ := h3.inv_iface
  have e1 := ha.inv_int
  have e2 := hb.inv_int
  have e3 : us2 = [] := List.eq_nil_of_length_eq_zero h4.1
  subst e1 e2 e3
  refine (callsIn_wide.2 (isSame n w)).mono ?_
  rintro e w' ⟨rfl, rfl⟩
  exact ⟨_, rfl, .bool true, S, g, ⟨rfl, rfl⟩, hrel, .bool _, .refl _ _⟩
end Go.Proofs.YtihpnfpdocnniaaGreat
end
section
set_option linter.unusedVariables false
set_option linter.unusedSimpArgs false
set_option maxRecDepth 20000
set_option maxHeartbeats 400000
namespace Go.Proofs.YtihpnfpdocnniaaGreat
open Go Go.MV
theorem join_at {s : Sch} {a b : Val} {r : Except Int Val} (ha : okV a) (hb : okV b) (h : joinVF s a b = r) (S : MS) : MCalls Tryz.prog 11 [encS s, encV a, encV b] S fun v σ' => v = encJ r ∧ σ' = S := h ▸ join_spec s a b ha hb S
theorem all_at_ {s : Sch} {l : List Val} {r : Except Int Val} (hl : ∀ x ∈ l, okV x) (h : AllF s l = r) (S : MS) : MCalls Tryz.prog 20 [encS s, .lst none 5 (encVs l)] S fun v σ' => v = encJ r ∧ σ' = S := h ▸ joinAll_spec s l hl S
theorem join_ok_of {s : Sch} {a b v : Val} (hs : isF 16 s = true) (ha : isVF s a = true) (hb : isVF s b = true) (h : bothF s a b = some v) : joinVF s a b = .ok v := by
 unfold joinVF
 rw [if_pos ⟨by rw [hs, ha]; rfl, by rw [hs, hb]; rfl⟩, h]
theorem join_err_b {s : Sch} {a b : Val} (hb : isVF s b = false) : joinVF s a b = .error 14 := join_err fun h => by rw [hb, Bool.and_false] at h; exact absurd h.2 (by decide)
theorem max_nat (a b : Nat) : (if (b : Int) > (a : Int) then (b : Int) else (a : Int)) = ((max a b : Nat) : Int) := by split <;> omega
theorem okV_num {a : Int} (h : 0 ≤ a ∧ a < 18446744073709551616) : okV (.mk a 0 [] [] []) := by simp [okV, okVs]; omega
theorem is_num (a : Int) : isVF (.mk 1 []) (.mk a 0 [] [] []) = true := by rw [isVF_mk 1]; rfl
theorem both_num (a b : Int) : bothF (.mk 1 []) (.mk a 0 [] [] []) (.mk b 0 [] [] []) = some (.mk (max a b) 0 [] [] []) := by rw [bothF_mk]; rfl
def kA : Val := .mk 0 0 [[97]] [] []
def kB_ : Val := .mk 0 0 [[98]] [] []
def kAB : Val := .mk 0 0 [[97], [98]] [] []
def kX : Val := .mk 0 0 [] [[(1, 1)]] [.mk 9 0 [] [] []]
def kY : Val := .mk 0 0 [] [[(1, 2)]] [.mk 3 0 [] [] []]
theorem kn_set : joinVF (.mk 3 []) kA kB_ = .ok kAB := join_ok_of (by decide) (by unfold kA; rw [isVF_mk 3]; rfl) (by unfold kB_; rw [isVF_mk 3]; rfl) (by
 unfold kA kB_ kAB
 rw [bothF_mk, show bothB 3 (bothL []) (.mk 0 0 [[97]] [] []) (.mk 0 0 [[98]] [] []) = some (.mk 0 0 [[97], [98]] [] []) from congrArg (fun s => some (Val.mk 0 0 s [] [])) (by simp [Val.sv, bothX, Op.bytesLess])]
 rfl)
theorem kn_err : joinVF (.mk 3 []) kAB (.mk 1 0 [] [] []) = .error 14 := join_err_b (by rw [isVF_mk 3]; rfl)
theorem cmp_self (a : List Tk) : cmpF a a = 0 := by unfold cmpF; rw [if_pos rfl]
theorem kn_cmp : cmpF [(1, 1)] [(1, 2)] = -1 ∧ cmpF [(1, 2)] [(1, 1)] = 1 := by
 unfold cmpF
 have h1 : joinF [(1, 1)] [(1, 2)] = [(1, 2)] := by simp [joinF, mergeF, cmpI, Go.MV.bothT]
 have h2 : joinF [(1, 2)] [(1, 1)] = [(1, 2)] := by simp [joinF, mergeF, cmpI, Go.MV.bothT]
 rw [h1, h2]
 decide
theorem is_one8 {p x : Int} {v : Val} {t : Sch} (hp : 0 ≤ p ∧ p ≤ 1000000) (hx : 0 < x) (hv : isVF t v = true) : isVF (.mk 8 [t]) (.mk 0 0 [] [[(p, x)]] [v]) = true := by
 rw [isVF_mk 8]
 simp [isVL, hv, bareF, numsK, textsK, clocksK, valuesK, Val.nv, Val.mv, Val.sv, Val.cv, Val.vv, isCauseF, clock_one hp hx, pairsF]
theorem kn_cause : joinVF (.mk 8 [.mk 1 []]) kX kY = .ok kY := join_ok_of (by decide) (is_one8 (by decide) (by decide) (is_num 9)) (is_one8 (by decide) (by decide) (is_num 3)) (by
 rw [bothF_mk, show bothB 8 (bothL [.mk 1 []]) kX kY = some kY from ?_]
 ·rfl
 ·show causesF (bothF (.mk 1 [])) kX kY = some kY
  have hm : mergedC kX kY = [([(1, 1)], .mk 9 0 [] [] [], none), ([(1, 2)], .mk 3 0 [] [] [], none)] := by
   simp [mergedC, entC, kX, kY, Val.cv, Val.vv, mergeE, byTicksF, tickC, cmpI]
  rw [causesF, hm]
  simp [seenE, kn_cmp.1, kn_cmp.2, cmp_self, goE, ofE, kY])
theorem kn_all : AllF (.mk 3 []) [] = .ok noV := by
 unfold AllF
 rw [if_pos (by decide)]
 rfl
theorem kn_none : noneF (.mk 3 []) noV = true := by unfold noneF; exact decide_eq_true rfl
theorem ok_kn : okV kA ∧ okV kB_ ∧ okV kAB ∧ okV kX ∧ okV kY := by
 refine ⟨?_, ?_, ?_, ?_, ?_⟩ <;> simp [kA, kB_, kAB, kX, kY, okV, okVs, okTk]
theorem lawOf_spec (k : Int) (ins : List Sch) (S : MS) : MCalls Tryz.prog 12 [.int .i64 k, .lst none 2 (encSs ins)] S fun v σ' => v = encS (.mk k ins) ∧ σ' = S := by
 refine mcalls_body Tryz.func12 rfl Tryz.ntmps12 (Nat.le_of_ble_eq_true rfl) ?_
 refine mwp_seq <| qR rfl <| qO rfl <| op_alloc' rfl zm35 rfl rfl <| qN <| mwp_seq <| qR rfl <| qM rfl rfl rfl <| qM rfl rfl rfl <| qO rfl <| op_build rfl Tryz.underlying35 zm35 (.cons fo35_0 sz3 rfl rfl (Nat.le_of_ble_eq_true rfl) (.cons fo35_1 sz33 rfl rfl (Nat.le_of_ble_eq_true rfl) .nil)) (by kernel_rfl) ?_
 refine qO rfl <| op_store' rfl rfl rfl rfl sz35 rfl rfl (Nat.le_of_ble_eq_true rfl) rfl <| qN <| mwp_ret ?_
 exact ret_cell (y := encS (.mk k ins)) (.inr rfl) Tryz.results12 rfl rfl ta35 rfl (.refl _) (cl_encS _ _) ⟨rfl, rfl⟩
theorem knownJ_spec (S : MS) : MCalls Tryz.prog 10 [] S fun v σ' => v = .bool true ∧ σ' = S := by
 refine mcalls_body Tryz.func10 rfl Tryz.ntmps10 (Nat.le_of_ble_eq_true rfl) ?_
 refine mwp_seq <| qR rfl <| qA rfl rfl rfl <| qN <| mwp_seq <| qR rfl <| qO rfl <| op_viewTo (y := encS (.mk 3 [])) (op_build rfl Tryz.underlying35 zm35 (.cons fo35_0 sz3 rfl rfl (Nat.le_of_ble_eq_true rfl) .nil) (by kernel_rfl) ⟨rfl, rfl⟩) (.agg (.cons (.refl _) (.cons (.nil 2) .nil))) ?_
 refine qO rfl <| op_alloc' rfl zm35 rfl rfl <| qO rfl <| op_store' rfl rfl rfl rfl sz35 rfl rfl (Nat.le_of_ble_eq_true rfl) rfl <| qN <| mwp_seq <| qR rfl <| qL rfl rfl rfl rfl ta35 rfl <| qO rfl <| op_buildSlice rfl Tryz.underlying24 el9 rfl rfl (by decide) (by decide) rfl rfl ?_
 refine qO rfl <| op_viewTo (y := encV kA) (op_build rfl Tryz.underlying28 zm28 (.cons fo28_2 sz24 rfl rfl (Nat.le_of_ble_eq_true rfl) .nil) (by kernel_rfl) ⟨rfl, rfl⟩) (.agg (.cons (.refl _) (.cons (.refl _) (.cons (.refl _) (.cons (.nil 1) (.cons (.nil 5) .nil)))))) ?_
 refine qO rfl <| op_buildSlice rfl Tryz.underlying24 el9 rfl rfl (by decide) (by decide) rfl rfl ?_
 refine qO rfl <| op_viewTo (y := encV kB_) (op_build rfl Tryz.underlying28 zm28 (.cons fo28_2 sz24 rfl rfl (Nat.le_of_ble_eq_true rfl) .nil) (by kernel_rfl) ⟨rfl, rfl⟩) (.agg (.cons (.refl _) (.cons (.refl _) (.cons (.refl _) (.cons (.nil 1) (.cons (.nil 5) .nil)))))) ?_
 refine wOps_op rfl (op_call rfl rfl rfl co11 ((join_at ok_kn.1 ok_kn.2.1 kn_set _).mono ?_))
 rintro _ _ ⟨rfl, rfl⟩
 refine qM rfl rfl rfl <| qO rfl <| op_extract rfl rfl rfl <| qO rfl <| op_extract rfl rfl rfl <| qO rfl <| op_alloc' rfl zm28 rfl rfl <| qO rfl <| op_store' rfl rfl rfl rfl sz28 rfl rfl (Nat.le_of_ble_eq_true rfl) rfl <| qA rfl rfl rfl <| qN <| mwp_seq <| qR rfl <| qL rfl rfl rfl rfl ta35 rfl <| qL rfl rfl rfl rfl ta28 rfl <| qO rfl <| op_viewTo (y := encV (.mk 1 0 [] [] [])) (op_build rfl Tryz.underlying28 zm28 (.cons fo28_0 sz22 rfl rfl (Nat.le_of_ble_eq_true rfl) .nil) (by kernel_rfl) ⟨rfl, rfl⟩) (.agg (.cons (.refl _) (.cons (.refl _) (.cons (.nil 1) (.cons (.nil 1) (.cons (.nil 5) .nil)))))) ?_
 refine wOps_op rfl (op_call rfl rfl rfl co11 ((join_at ok_kn.2.2.1 (okV_num (by decide)) kn_err _).mono ?_))
 rintro _ _ ⟨rfl, rfl⟩
 refine qM rfl rfl rfl <| qO rfl <| op_extract rfl rfl rfl <| qO rfl <| op_extract rfl rfl rfl <| qO rfl <| op_alloc' rfl zm28 rfl rfl <| qO rfl <| op_store' rfl rfl rfl rfl sz28 rfl rfl (Nat.le_of_ble_eq_true rfl) rfl <| qA rfl rfl rfl <| qN <| mwp_seq <| qR rfl <| qO rfl <| op_viewTo (y := encS (.mk 1 [])) (op_build rfl Tryz.underlying35 zm35 (.cons fo35_0 sz3 rfl rfl (Nat.le_of_ble_eq_true rfl) .nil) (by kernel_rfl) ⟨rfl, rfl⟩) (.agg (.cons (.refl _) (.cons (.nil 2) .nil))) ?_
 refine qO rfl <| op_buildSlice rfl Tryz.underlying33 el35 rfl rfl (by decide) (by decide) rfl rfl ?_
 refine qO rfl <| op_viewTo (y := encS (.mk 8 [.mk 1 []])) (op_build rfl Tryz.underlying35 zm35 (.cons fo35_0 sz3 rfl rfl (Nat.le_of_ble_eq_true rfl) (.cons fo35_1 sz33 rfl rfl (Nat.le_of_ble_eq_true rfl) .nil)) (by kernel_rfl) ⟨rfl, rfl⟩) (.agg (.cons (.refl _) (.cons (.refl _) .nil))) ?_
 refine qO rfl <| op_alloc' rfl zm35 rfl rfl <| qO rfl <| op_store' rfl rfl rfl rfl sz35 rfl rfl (Nat.le_of_ble_eq_true rfl) rfl <| qN <| mwp_seq <| qR rfl <| qO rfl <| op_build rfl Tryz.underlying53 zm53 (.cons fo53_0 sz3 rfl rfl (Nat.le_of_ble_eq_true rfl) (.cons fo53_1 sz22 rfl rfl (Nat.le_of_ble_eq_true rfl) .nil)) (by kernel_rfl) ?_
 refine qO rfl <| op_buildSlice rfl Tryz.underlying51 el53 rfl rfl (by decide) (by decide) rfl rfl ?_
 refine qO rfl <| op_buildSlice rfl Tryz.underlying25 el51 rfl rfl (by decide) (by decide) rfl rfl ?_
 refine qO rfl <| op_viewTo (y := encV (.mk 9 0 [] [] [])) (op_build rfl Tryz.underlying28 zm28 (.cons fo28_0 sz22 rfl rfl (Nat.le_of_ble_eq_true rfl) .nil) (by kernel_rfl) ⟨rfl, rfl⟩) (.agg (.cons (.refl _) (.cons (.refl _) (.cons (.nil 1) (.cons (.nil 1) (.cons (.nil 5) .nil)))))) ?_
 refine qO rfl <| op_buildSlice rfl Tryz.underlying26 el28 rfl rfl (by decide) (by decide) rfl rfl ?_
 refine qO rfl <| op_viewTo (y := encV kX) (op_build rfl Tryz.underlying28 zm28 (.cons fo28_3 sz25 rfl rfl (Nat.le_of_ble_eq_true rfl) (.cons fo28_4 sz26 rfl rfl (Nat.le_of_ble_eq_true rfl) .nil)) (by kernel_rfl) ⟨rfl, rfl⟩) (.agg (.cons (.refl _) (.cons (.refl _) (.cons (.nil 1) (.cons (.refl _) (.cons (.refl _) .nil)))))) ?_
 refine qO rfl <| op_alloc' rfl zm28 rfl rfl <| qO rfl <| op_store' rfl rfl rfl rfl sz28 rfl rfl (Nat.le_of_ble_eq_true rfl) rfl <| qN <| mwp_seq <| qR rfl <| qO rfl <| op_build rfl Tryz.underlying53 zm53 (.cons fo53_0 sz3 rfl rfl (Nat.le_of_ble_eq_true rfl) (.cons fo53_1 sz22 rfl rfl (Nat.le_of_ble_eq_true rfl) .nil)) (by kernel_rfl) ?_
 refine qO rfl <| op_buildSlice rfl Tryz.underlying51 el53 rfl rfl (by decide) (by decide) rfl rfl ?_
 refine qO rfl <| op_buildSlice rfl Tryz.underlying25 el51 rfl rfl (by decide) (by decide) rfl rfl ?_
 refine qO rfl <| op_viewTo (y := encV (.mk 3 0 [] [] [])) (op_build rfl Tryz.underlying28 zm28 (.cons fo28_0 sz22 rfl rfl (Nat.le_of_ble_eq_true rfl) .nil) (by kernel_rfl) ⟨rfl, rfl⟩) (.agg (.cons (.refl _) (.cons (.refl _) (.cons (.nil 1) (.cons (.nil 1) (.cons (.nil 5) .nil)))))) ?_
 refine qO rfl <| op_buildSlice rfl Tryz.underlying26 el28 rfl rfl (by decide) (by decide) rfl rfl ?_
 refine qO rfl <| op_viewTo (y := encV kY) (op_build rfl Tryz.underlying28 zm28 (.cons fo28_3 sz25 rfl rfl (Nat.le_of_ble_eq_true rfl) (.cons fo28_4 sz26 rfl rfl (Nat.le_of_ble_eq_true rfl) .nil)) (by kernel_rfl) ⟨rfl, rfl⟩) (.agg (.cons (.refl _) (.cons (.refl _) (.cons (.nil 1) (.cons (.refl _) (.cons (.refl _) .nil)))))) ?_
 refine qO rfl <| op_alloc' rfl zm28 rfl rfl <| qO rfl <| op_store' rfl rfl rfl rfl sz28 rfl rfl (Nat.le_of_ble_eq_true rfl) rfl <| qN <| mwp_seq <| qR rfl <| qL rfl rfl rfl rfl ta35 rfl <| qL rfl rfl rfl rfl ta28 rfl <| qL rfl rfl rfl rfl ta28 rfl ?_
 refine wOps_op rfl (op_call rfl rfl rfl co11 ((join_at ok_kn.2.2.2.1 ok_kn.2.2.2.2 kn_cause _).mono ?_))
 rintro _ _ ⟨rfl, rfl⟩
 refine qM rfl rfl rfl <| qO rfl <| op_extract rfl rfl rfl <| qO rfl <| op_extract rfl rfl rfl <| qO rfl <| op_alloc' rfl zm28 rfl rfl <| qO rfl <| op_store' rfl rfl rfl rfl sz28 rfl rfl (Nat.le_of_ble_eq_true rfl) rfl <| qA rfl rfl rfl <| qN <| mwp_seq <| qR rfl <| qL rfl rfl rfl rfl ta35 rfl ?_
 refine wOps_op rfl (op_call rfl rfl rfl co20 (((all_at_ (l := []) (by simp) kn_all _).sub (.cons (.refl _) (.cons (.nil 5) .nil))).mono ?_))
 rintro _ _ ⟨rfl, rfl⟩
 refine qM rfl rfl rfl <| qO rfl <| op_extract rfl rfl rfl <| qO rfl <| op_extract rfl rfl rfl <| qO rfl <| op_alloc' rfl zm28 rfl rfl <| qO rfl <| op_store' rfl rfl rfl rfl sz28 rfl rfl (Nat.le_of_ble_eq_true rfl) rfl <| qA rfl rfl rfl <| qN <| mwp_seq <| qR rfl <| qM rfl rfl rfl <| qO rfl <| op_if0 rfl Tryz.underlying30 rfl rfl (.inl ⟨rfl, rfl⟩) <| qM rfl rfl rfl <| qF rfl rfl rfl fo28_2 <| qL rfl rfl rfl rfl ta24 rfl <| qE rfl rfl Tryz.underlying24 rfl <| qC rfl rfl rfl rfl (show _ = some true from rfl) <| qP rfl rfl rfl rfl ?_
 refine qM rfl rfl rfl <| qM rfl rfl rfl <| qO rfl <| op_makeInterface rfl rfl Tryz.underlying38 (by simp) ?_
 refine wOps_op rfl (op_call rfl rfl rfl co13 ((errIs_spec 14 _).mono ?_))
 rintro _ _ ⟨rfl, rfl⟩
 refine qP rfl rfl rfl rfl <| qM rfl rfl rfl <| qM rfl rfl rfl <| qO rfl <| op_if0 rfl Tryz.underlying30 rfl rfl (.inl ⟨rfl, rfl⟩) <| qP rfl rfl rfl rfl <| qM rfl rfl rfl <| qL rfl rfl rfl rfl ta28 rfl <| qL rfl rfl rfl rfl ta28 rfl ?_
 refine wOps_op rfl (op_call rfl rfl rfl co15 ((rSame_spec kY kY _).mono ?_))
 rintro _ _ ⟨rfl, rfl⟩
 rw [decide_eq_true rfl]
 refine qP rfl rfl rfl rfl <| qM rfl rfl rfl <| qM rfl rfl rfl <| qO rfl <| op_if0 rfl Tryz.underlying30 rfl rfl (.inl ⟨rfl, rfl⟩) <| qP rfl rfl rfl rfl <| qM rfl rfl rfl <| qL rfl rfl rfl rfl ta35 rfl <| qL rfl rfl rfl rfl ta28 rfl ?_
 refine wOps_op rfl (op_call rfl rfl rfl co21 ((rNone_spec (.mk 3 []) noV _).mono ?_))
 rintro _ _ ⟨rfl, rfl⟩
 rw [kn_none]
 refine qP rfl rfl rfl rfl <| qA rfl rfl rfl <| qN <| mwp_ret ?_
 exact ret_tmp (.inr rfl) Tryz.results10 rfl (.of_eq (rfl)) (.bool _) ⟨rfl, rfl⟩
end Go.Proofs.YtihpnfpdocnniaaGreat
end
section
set_option linter.unusedVariables false
set_option linter.unusedSimpArgs false
namespace Go.Proofs.YtihpnfpdocnniaaGreat
open Go Go.MV Go.RowKit
abbrev ltB (a b : Bs) : Prop := Op.bytesLess a b = true
theorem ltB_cons {x y : UInt8} {a b : Bs} : ltB (x :: a) (y :: b) ↔ x < y ∨ (x = y ∧ ltB a b) := by
  unfold ltB
  simp [Op.bytesLess]
theorem ltB_irrefl : ∀ a : Bs, ¬ ltB a a
  | [] => by simp [ltB, Op.bytesLess]
  | x :: a => by
    rw [ltB_cons]
    rintro (h | ⟨_, h⟩)
    · exact UInt8.lt_irrefl _ h
    · exact ltB_irrefl a h
theorem ltB_trans : ∀ {a b c : Bs}, ltB a b → ltB b c → ltB a c
  | _, [], _, h, _ => by simp [ltB, Op.bytesLess] at h
  | _, _ :: _, [], _, h => by simp [ltB, Op.bytesLess] at h
  | [], _ :: _, _ :: _, _, _ => by simp [ltB, Op.bytesLess]
  | x :: a, y :: b, z :: c, h1, h2 => by
    rw [ltB_cons] at h1 h2 ⊢
    rcases h1 with h1 | ⟨rfl, h1⟩
    · rcases h2 with h2 | ⟨rfl, h2⟩
      · exact .inl (UInt8.lt_trans h1 h2)
      · exact .inl h1
    · rcases h2 with h2 | ⟨rfl, h2⟩
      · exact .inl h2
      · exact .inr ⟨rfl, ltB_trans h1 h2⟩
theorem ltB_asymm {a b : Bs} (h : ltB a b) : ¬ ltB b a := fun h2 => ltB_irrefl _ (ltB_trans h h2)
def Up (l : List Bs) : Prop := l.Pairwise ltB
theorem rises_up : ∀ l : List Bs, risesF l = true ↔ Up l
  | [] => by simp [risesF, Up]
  | [x] => by simp [risesF, Up]
  | x :: y :: l => by
    rw [risesF, Bool.and_eq_true, rises_up (y :: l)]
    unfold Up
    rw [List.pairwise_cons (a := x)]
    constructor
    · rintro ⟨h1, h2⟩
      refine ⟨fun z hz => ?_, h2⟩
      rcases List.mem_cons.1 hz with rfl | hz
      · exact h1
      · exact ltB_trans h1 ((List.pairwise_cons.1 h2).1 z hz)
    · rintro ⟨h1, h2⟩
      exact ⟨h1 y (.head _), h2⟩
end Go.Proofs.YtihpnfpdocnniaaGreat
end
section
set_option linter.unusedVariables false
set_option linter.unusedSimpArgs false
namespace Go.MV
open Go Go.RowKit Go.ChangeShapes Go.WideShapes Go.Deep
def g0 (W : World) : Gh := { B := W.heap.size, w0 := W, st := fun b => match W.heap[b]? with | some (.cells c _ _) => c.size | _ => 0, bk := fun _ => none, lg := fun _ _ => none }
theorem rel0 (W : World) : Rel (g0 W) [] W := by
  refine ⟨.refl _ _, Nat.le_refl _, fun b hb => ?_, fun _ _ => rfl, fun _ _ _ => rfl, fun _ => none, ⟨fun id o h => (by simp at h), fun i j b h => (by cases h), fun id b h => (by cases h)⟩⟩
  show (match W.heap[b]? with | some (.cells c _ _) => c.size | _ => 0) = 0
  rw [Array.getElem?_eq_none hb]
theorem stab0 {W : World} {ad : Addr} {k : Nat} {v : Value} (h : W.cell? (ad.add k) = some v) (h1 : v.oneCell' = true) : Stab (g0 W) W ad k v := by
  refine ⟨?_, h, h1⟩
  have e := cell_spot h
  rw [e] at h
  show _ < (match W.heap[(ad.add k).block]? with | some (.cells c _ _) => c.size | _ => 0)
  unfold World.cell? at h
  split at h
  · rename_i c t f hc
    simp only [Option.isSome_none, Bool.false_eq_true, if_false] at h
    simp only at hc
    rw [hc]
    exact (Array.getElem?_eq_some_iff.1 h).1
  · cases h
def TyFs (T : TypeId → List MV → Prop) : List Field → List MV → Prop
  | [], l => l = []
  | f :: fs, l => ∃ a b, l = a ++ b ∧ T f.type a ∧ TyFs T fs b
def ElF (P : Program) (e : TypeId) (x : MV) : Prop := match P.underlying e with | some (.struct _) => x = .agg x.cells | _ => [x] = x.cells
def TyM (P : Program) : Nat → TypeId → List MV → Prop
  | 0, _, _ => False
  | n + 1, t, l =>
    match P.underlying t with
    | some (.int k) => ∃ v, l = [.int k v] ∧ (Lit.int k v).wf = true
    | some .bool => ∃ b, l = [.bool b]
    | some .string => ∃ s, l = [.str s] ∧ s.size ≤ maxLen
    | some (.slice e) => ∃ xs, l = [.lst none (P.cellsOf e) xs] ∧ ∀ x ∈ xs, x.cells.length = P.cellsOf e ∧ TyM P n e x.cells ∧ ElF P e x
    | some (.struct fs) => TyFs (TyM P n) fs.toList l
    | _ => False
def contig (P : Program) (size : Nat) : List Field → Nat → Bool
  | [], off => Nat.beq off size
  | f :: fs, off => Nat.beq f.offset off && contig P size fs (off + P.cellsOf f.type)
def okTypes (P : Program) (ts : List TypeId) : Bool :=
  ts.all fun t => match P.underlying t with
    | some (.int _) | some .bool | some .string => true
    | some (.slice e) => natMem e ts && (match P.underlying e with | some (.struct _) => true | _ => Nat.beq (P.cellsOf e) 1)
    | some (.struct fs) => fs.toList.all (fun f => natMem f.type ts) && contig P (P.cellsOf t) fs.toList 0
    | _ => false
theorem rds_of_fields {P : Program} {W : World} {T : TypeId → List MV → Prop} {cs : List Value} {size : Nat} (hlen : cs.length = size) : ∀ (fs : List Field) (off : Nat), contig P size fs off = true →
    (∀ f ∈ fs, ∃ l, Rds (g0 W) W l ((cs.drop f.offset).take (P.cellsOf f.type)) ∧ T f.type l ∧ l.length = P.cellsOf f.type ∧ ∀ y ∈ l, y.one = true) → ∃ l, Rds (g0 W) W l (cs.drop off) ∧ TyFs T fs l ∧ ∀ y ∈ l, y.one = true
  | [], off, hc, _ => by
    have := Nat.eq_of_beq_eq_true hc
    refine ⟨[], ?_, rfl, fun y hy => by cases hy⟩
    rw [List.drop_eq_nil_of_le (by omega)]
    exact .nil _ _
  | f :: fs, off, hc, h => by
    simp only [contig, Bool.and_eq_true] at hc
    have ho := Nat.eq_of_beq_eq_true hc.1
    obtain ⟨a, h1, h2, h3, h5⟩ := h f (List.mem_cons_self ..)
    obtain ⟨b, k1, k2, k3⟩ := rds_of_fields hlen fs _ hc.2 (fun f' hf' => h f' (List.mem_cons_of_mem _ hf'))
    refine ⟨a ++ b, ?_, ⟨a, b, rfl, h2, k2⟩, fun y hy => (List.mem_append.1 hy).elim (h5 y) (k3 y)⟩
    have e : cs.drop off = (cs.drop off).take (P.cellsOf f.type) ++ cs.drop (off + P.cellsOf f.type) := by
      rw [← List.drop_drop, List.take_append_drop]
    rw [e]
    rw [ho] at h1
    exact h1.append k1
theorem tyFs_mono {T T' : TypeId → List MV → Prop} (h : ∀ t l, T t l → T' t l) : ∀ (fs : List Field) (l : List MV), TyFs T fs l → TyFs T' fs l
  | [], l, hl => hl
  | f :: fs, l, ⟨a, b, e, h1, h2⟩ => ⟨a, b, e, h _ _ h1, tyFs_mono h fs b h2⟩
theorem tyM_succ {P : Program} : ∀ (n : Nat) (t : TypeId) (l : List MV), TyM P n t l → TyM P (n + 1) t l
  | 0, t, l, h => h.elim
  | n + 1, t, l, h => by
    unfold TyM at h ⊢
    split at h
    · rename_i k hu; exact h
    · rename_i hu; exact h
    · rename_i hu; exact h
    · rename_i e hu
      obtain ⟨xs, h1, h2⟩ := h
      exact ⟨xs, h1, fun x hx => ⟨(h2 x hx).1, tyM_succ n _ _ (h2 x hx).2.1, (h2 x hx).2.2⟩⟩
    · rename_i fs hu; exact tyFs_mono (tyM_succ n) _ _ h
    · exact h.elim
theorem tyM_le {P : Program} {n m : Nat} (h : n ≤ m) {t : TypeId} {l : List MV} (ht : TyM P n t l) : TyM P m t l := by
  obtain ⟨d, rfl⟩ := Nat.le.dest h
  induction d with
  | zero => exact ht
  | succ d ih => exact tyM_succ _ _ _ (ih (by omega))
section
variable {H : Type} {enc : TypeId × Value → H} {P : Program} {W : World} {base : Nat} {spare : Nat → Bool} {held : Bool}
theorem common_bound {α : Type} {p : Nat → α → Prop} (hm : ∀ n m a, n ≤ m → p n a → p m a) : ∀ (l : List α), (∀ a ∈ l, ∃ n, p n a) → ∃ n, ∀ a ∈ l, p n a
  | [], _ => ⟨0, fun a h => by cases h⟩
  | a :: l, h => by
    obtain ⟨n, hn⟩ := h a (List.mem_cons_self ..)
    obtain ⟨m, hm'⟩ := common_bound hm l (fun b hb => h b (List.mem_cons_of_mem _ hb))
    refine ⟨max n m, fun b hb => ?_⟩
    rcases List.mem_cons.1 hb with rfl | hb
    · exact hm _ _ _ (by omega) hn
    · exact hm _ _ _ (by omega) (hm' b hb)
theorem reads_gen {ts : List TypeId} (hok : okTypes P ts = true) : ∀ (n : Nat) (x : DataW H × List MemPlace) (fuel : Nat) (t : TypeId) (cs : List Value), SizeOf.sizeOf x.1 ≤ n → t ∈ ts → DataW.trod enc P W base spare held fuel t cs = some x →
    ∃ (l : List MV) (m : Nat), Rds (g0 W) W l cs ∧ TyM P m t l ∧ ∀ y ∈ l, y.one = true := by
  intro n
  induction n using Nat.strongRecOn with
  | _ n ih =>
  intro x fuel t cs hx ht h
  have hot : (match P.underlying t with
    | some (.int _) | some .bool | some .string => true
    | some (.slice e) => natMem e ts && (match P.underlying e with | some (.struct _) => true | _ => Nat.beq (P.cellsOf e) 1)
    | some (.struct fs) => fs.toList.all (fun f => natMem f.type ts) && contig P (P.cellsOf t) fs.toList 0
    | _ => false) = true := by
    simp only [okTypes, List.all_eq_true] at hok
    exact hok t ht
  split at hot
  · rename_i k hu
    obtain ⟨v, rfl, rfl, hwf⟩ := DataW.trod_int hu h
    refine ⟨[.int k v], 1, .cons (.int _ _) (.nil _ _), ?_, by simp [MV.one]⟩
    unfold TyM
    rw [hu]
    exact ⟨v, rfl, hwf⟩
  · rename_i hu
    obtain ⟨b, rfl, rfl⟩ := DataW.trod_bool hu h
    refine ⟨[.bool b], 1, .cons (.bool _) (.nil _ _), ?_, by simp [MV.one]⟩
    unfold TyM
    rw [hu]
    exact ⟨b, rfl⟩
  · rename_i hu
    obtain ⟨s, rfl, rfl, hs⟩ := DataW.trod_string hu h
    refine ⟨[.str s], 1, .cons (.str _) (.nil _ _), ?_, by simp [MV.one]⟩
    unfold TyM
    rw [hu]
    exact ⟨s, rfl, hs⟩
  · rename_i e hu
    simp only [Bool.and_eq_true] at hot
    have he : e ∈ ts := natMem_iff.1 hot.1
    rcases open_slice hu h with ⟨rfl, rfl⟩ | ⟨a, len, cap, m, n', D, Pl, rfl, hb, hl, hm, hmm, rfl, hi⟩
    · refine ⟨[.lst none (P.cellsOf e) []], 1, .cons (Sub.nil _ _ _ _ .lst0) (.nil _ _), ?_, by simp [MV.one]⟩
      unfold TyM
      rw [hu]
      exact ⟨[], rfl, fun x hx => by cases hx⟩
    · have hlm : len ≤ m := by rw [hmm]; split <;> omega
      have hel : ∀ i, i < len → ∃ (l : List MV) (k : Nat) (us : List Value), us.length = P.cellsOf e ∧ Rds (g0 W) W l us ∧ TyM P k e l ∧ (∀ y ∈ l, y.one = true) ∧ ∀ j, j < P.cellsOf e → W.cell? ((a.add (i * P.cellsOf e)).add j) = us[j]? := by
        intro i hil
        obtain ⟨cs', hc, ht'⟩ := hi i (by omega)
        obtain ⟨_, hlen, hcell⟩ := World.cells?_some hc
        have hsz : SizeOf.sizeOf (D i) < n := by
          have hmem : D i ∈ (List.range len).map D := List.mem_map.2 ⟨i, List.mem_range.2 hil, rfl⟩
          have := List.sizeOf_lt_of_mem hmem
          simp only [DataW.slice.sizeOf_spec] at hx
          omega
        obtain ⟨l, k, h1, h2, h3⟩ := ih _ hsz (D i, Pl i) n' e cs' (Nat.le_refl _) he ht'
        exact ⟨l, k, cs', hlen, h1, h2, h3, hcell⟩
      have hall : ∀ (N : Nat), N ≤ len → ∃ (xs : List MV) (us : List Value) (k : Nat), xs.length = N ∧ us.length = N * P.cellsOf e ∧ Rds (g0 W) W (flat xs) us ∧ (∀ y ∈ flat xs, y.one = true) ∧ (∀ x ∈ xs, x.cells.length = P.cellsOf e ∧ TyM P k e x.cells ∧ ElF P e x) ∧
          ∀ j, j < N * P.cellsOf e → W.cell? (a.add j) = us[j]? := by
        intro N
        induction N with
        | zero => exact fun _ => ⟨[], [], 0, rfl, by simp, .nil _ _, by simp [flat], by simp, by simp⟩
        | succ N ihN =>
          intro hN
          obtain ⟨xs, us, k, q1, q2, q3, q4, q5, q6⟩ := ihN (by omega)
          obtain ⟨l, k', us', r1, r2, r3, r4, r5⟩ := hel N (by omega)
          have hll : l.length = P.cellsOf e := by rw [← r2.1, r1]
          obtain ⟨y, hy1, hy2⟩ : ∃ y : MV, y.cells = l ∧ ElF P e y := by
            cases hue : P.underlying e with
            | none => 
              have hk1 : P.cellsOf e = 1 := by have := hot.2; rw [hue] at this; exact Nat.eq_of_beq_eq_true this
              match l, hll.trans hk1 with
              | [y], _ =>
                have := r4 y (List.mem_cons_self ..)
                simp only [ElF, hue]
                refine ⟨y, ?_, ?_⟩ <;> (cases y <;> first | rfl | (cases this; done))
            | some d =>
              cases d with
              | struct fs => exact ⟨.agg l, rfl, by simp only [ElF, hue]; rfl⟩
              | _ =>
                have hk1 : P.cellsOf e = 1 := by have := hot.2; rw [hue] at this; exact Nat.eq_of_beq_eq_true this
                match l, hll.trans hk1 with
                | [y], _ =>
                  have := r4 y (List.mem_cons_self ..)
                  simp only [ElF, hue]
                  refine ⟨y, ?_, ?_⟩ <;> (cases y <;> first | rfl | (cases this; done))
          refine ⟨xs ++ [y], us ++ us', max k k', by simp [q1], by rw [List.length_append, q2, r1, Nat.add_mul]; omega, ?_, ?_, ?_, ?_⟩
          · rw [flat_append]
            refine q3.append ?_
            simp only [flat, List.flatMap_cons, List.flatMap_nil, List.append_nil, hy1]
            exact r2
          · intro z hz
            rw [flat_append, List.mem_append] at hz
            rcases hz with hz | hz
            · exact q4 z hz
            · simp only [flat, List.flatMap_cons, List.flatMap_nil, List.append_nil, hy1] at hz
              exact r4 z hz
          · intro x hx
            rcases List.mem_append.1 hx with hx | hx
            · exact ⟨(q5 x hx).1, tyM_le (by omega) (q5 x hx).2.1, (q5 x hx).2.2⟩
            · simp at hx
              subst hx
              rw [hy1]
              exact ⟨hll, tyM_le (by omega) r3, hy2⟩
          · intro j hj
            rw [Nat.add_mul, Nat.one_mul] at hj
            by_cases hjl : j < N * P.cellsOf e
            · rw [List.getElem?_append_left (by omega)]
              exact q6 j hjl
            · rw [List.getElem?_append_right (by omega), q2, ← r5 (j - N * P.cellsOf e) (by omega), Go.MV.add_add]
              congr 2
              omega
      obtain ⟨xs, us, k, q1, q2, q3, q4, q5, q6⟩ := hall len (Nat.le_refl _)
      refine ⟨[.lst none (P.cellsOf e) xs], k + 1, .cons (.lst' q1 hl hm (fun x hx => (q5 x hx).1) q3 (fun j u hu => ⟨a, rfl, stab0 ?_ ?_⟩) (fun t ht => by cases ht)) (.nil _ _), ?_, by simp [MV.one]⟩
      · have hj : j < us.length := (List.getElem?_eq_some_iff.1 hu).1
        rw [q6 j (by omega)]
        exact hu
      · have hj : j < us.length := (List.getElem?_eq_some_iff.1 hu).1
        have hjf : j < (flat xs).length := by rw [← q3.1]; exact hj
        exact one_cell (q3.2 j _ u (List.getElem?_eq_getElem hjf) hu) (q4 _ (List.getElem_mem hjf))
      · unfold TyM
        rw [hu]
        exact ⟨xs, rfl, q5⟩
  · rename_i fs hu
    simp only [Bool.and_eq_true, List.all_eq_true] at hot
    obtain ⟨xs, n', rfl, rfl, hlen, hxl, hf⟩ := DataW.trod_struct hu h
    have hfld : ∀ f ∈ fs.toList, ∃ (k : Nat) (l : List MV), Rds (g0 W) W l ((cs.drop f.offset).take (P.cellsOf f.type)) ∧ TyM P k f.type l ∧ ∀ y ∈ l, y.one = true := by
      intro f hfm
      obtain ⟨i, hi⟩ := List.getElem?_of_mem hfm
      have hi' : fs[i]? = some f := by simpa using hi
      have hilt : i < xs.length := by rw [hxl]; exact (Array.getElem?_eq_some_iff.1 hi').1
      have htr := hf i f hi'
      rw [List.getElem?_eq_getElem hilt] at htr
      have hsz : SizeOf.sizeOf xs[i].1 < n := by
        have hmem : xs[i].1 ∈ xs.map (·.1) := List.mem_map.2 ⟨xs[i], List.getElem_mem hilt, rfl⟩
        have := List.sizeOf_lt_of_mem hmem
        simp only [DataW.agg.sizeOf_spec] at hx
        omega
      obtain ⟨l, k, h1, h2, h3⟩ := ih _ hsz xs[i] n' f.type _ (Nat.le_refl _) (natMem_iff.1 (hot.1 f hfm)) htr
      exact ⟨k, l, h1, h2, h3⟩
    obtain ⟨K, hK⟩ := common_bound (p := fun k (f : Field) => ∃ l : List MV, Rds (g0 W) W l ((cs.drop f.offset).take (P.cellsOf f.type)) ∧ TyM P k f.type l ∧ ∀ y ∈ l, y.one = true) (fun a b f hab ⟨l, h1, h2, h3⟩ => ⟨l, h1, tyM_le hab h2, h3⟩) fs.toList hfld
    have hcont := hot.2
    have hlens : ∀ (gs : List Field) (off : Nat), contig P (P.cellsOf t) gs off = true → off ≤ P.cellsOf t ∧ ∀ f ∈ gs, f.offset + P.cellsOf f.type ≤ P.cellsOf t := by
      intro gs
      induction gs with
      | nil => exact fun off hc => ⟨Nat.le_of_eq (Nat.eq_of_beq_eq_true hc), fun f hf => by cases hf⟩
      | cons f gs ihg =>
        intro off hc
        simp only [contig, Bool.and_eq_true] at hc
        have ho := Nat.eq_of_beq_eq_true hc.1
        obtain ⟨h1, h2⟩ := ihg _ hc.2
        refine ⟨by omega, fun f' hf' => ?_⟩
        rcases List.mem_cons.1 hf' with rfl | hf'
        · omega
        · exact h2 f' hf'
    obtain ⟨l, h1, h2, h3⟩ := rds_of_fields (P := P) (W := W) (T := TyM P K) hlen fs.toList 0 hcont (fun f hfm => by
      obtain ⟨l, h1, h2, h3⟩ := hK f hfm
      refine ⟨l, h1, h2, ?_, h3⟩
      have := (hlens _ _ hcont).2 f hfm
      rw [← h1.1, List.length_take, List.length_drop, hlen]
      omega)
    refine ⟨l, K + 1, by simpa using h1, ?_, h3⟩
    unfold TyM
    rw [hu]
    exact h2
  · cases hot
end
section
variable {H : Type} {enc : TypeId × Value → H} {P : Program} {W : World} {base b0 : Nat} {spare : Nat → Bool} {held : Bool} {r : Reach}
theorem arg_one {ts : List TypeId} (hok : okTypes P ts = true) {t : TypeId} (ht : t ∈ ts) {v : Value} {d : DataW H} {p : List MemPlace} (hv : v.cells = #[v]) (h : DataW.Trod enc P W base spare held t v d p) :
    ∃ (l : List MV) (m : Nat), Rds (g0 W) W l [v] ∧ TyM P m t l := by
  obtain ⟨fuel, hf⟩ := h
  rw [hv] at hf
  obtain ⟨l, m, h1, h2, _⟩ := reads_gen hok _ _ _ _ _ (Nat.le_refl _) ht hf
  exact ⟨l, m, h1, h2⟩
end
theorem law_calls {P : Program} {f : FuncId} {xs : List MV} {W : World} {vs : List Value} (h : MCalls P f xs [] fun v σ' => v = .bool true ∧ σ' = []) (hr : Rds (g0 W) W xs vs) : Calls P f vs.toArray W fun e w' => e = .returned (.bool true) ∧ Below W.heap.size W w' := by
  refine (callsIn_wide.1 (h (g0 W) W vs (rel0 W) hr)).mono ?_
  rintro e w' ⟨v, rfl, x, σ', g', ⟨rfl, rfl⟩, hrel, hrd, hle⟩
  rw [hrd.inv_bool]
  have := hrel.below
  rw [hle.B, hle.w0] at this
  exact ⟨rfl, this⟩
end Go.MV
end
section
set_option linter.unusedVariables false
set_option linter.unusedSimpArgs false
namespace Go.MV
open Go Go.RowKit Go.WideShapes Go.ChangeShapes
section
variable {H : Type} {enc : TypeId × Value → H} {P : Program} {W : World} {base b0 : Nat} {spare : Nat → Bool} {held : Bool} {r : Reach} {ts : List TypeId} {t : TypeId} {v : Value} {d : DataW H} {p : List MemPlace}
theorem tyM_intK {k : IntKind} (hu : P.underlying t = some (.int k)) {n : Nat} {l : List MV} (h : TyM P n t l) : ∃ v, l = [.int k v] ∧ (Lit.int k v).wf = true := by
  cases n with
  | zero => exact h.elim
  | succ n => unfold TyM at h; rw [hu] at h; exact h
theorem tyM_slice {e : TypeId} (hu : P.underlying t = some (.slice e)) {n : Nat} {l : List MV} (h : TyM P n t l) : ∃ xs m, m + 1 = n ∧ l = [.lst none (P.cellsOf e) xs] ∧ ∀ x ∈ xs, x.cells.length = P.cellsOf e ∧ TyM P m e x.cells ∧ ElF P e x := by
  cases n with
  | zero => exact h.elim
  | succ n =>
    unfold TyM at h; rw [hu] at h
    obtain ⟨xs, h1, h2⟩ := h
    exact ⟨xs, n, rfl, h1, h2⟩
theorem all_enc {α : Type} {enc : α → MV} {q : α → Prop} : ∀ {xs : List MV}, (∀ x ∈ xs, ∃ a, x = enc a ∧ q a) → ∃ l : List α, xs = l.map enc ∧ ∀ a ∈ l, q a
  | [], _ => ⟨[], rfl, fun a h => by cases h⟩
  | x :: xs, h => by
    obtain ⟨l, rfl, hl⟩ := all_enc (fun y hy => h y (List.mem_cons_of_mem _ hy))
    obtain ⟨a, rfl, ha⟩ := h x (List.mem_cons_self ..)
    refine ⟨a :: l, rfl, fun b hb => ?_⟩
    rcases List.mem_cons.1 hb with rfl | hb
    · exact ha
    · exact hl b hb
theorem rd_of_rds {g : Gh} {w : World} {m : MV} {v : Value} (h : Rds g w [m] [v]) : Rd g w m v := h.2 0 _ _ rfl rfl
theorem arg_slice {e : TypeId} {α : Type} {en : α → MV} {q : α → Prop} (hok : okTypes P ts = true) (ht : t ∈ ts) (hu : P.underlying t = some (.slice e)) (hel : ∀ m x, x.cells.length = P.cellsOf e → TyM P m e x.cells → ElF P e x → ∃ a, x = en a ∧ q a)
    (hv : Value.okWide P W r b0 t v) (h : DataW.Trod enc P W base spare held t v d p) : ∃ l : List α, Rd (g0 W) W (.lst none (P.cellsOf e) (l.map en)) v ∧ (∀ a ∈ l, q a) ∧ l.length ≤ maxLen := by
  obtain ⟨a, n, c, rfl⟩ := okWide_slice hu hv
  obtain ⟨l, m, h1, h2⟩ := arg_one hok ht rfl h
  obtain ⟨xs, m, _, rfl, hx⟩ := tyM_slice hu h2
  obtain ⟨l, rfl, hl⟩ := all_enc (fun x hx' => hel m x (hx x hx').1 (hx x hx').2.1 (hx x hx').2.2)
  refine ⟨l, rd_of_rds h1, hl, ?_⟩
  obtain ⟨_, _, _, _, h3, h4, _⟩ := (rd_of_rds h1).inv_lst
  have := Nat.le_trans h3 h4
  rwa [List.length_map] at this
theorem el_int {k : IntKind} (hu : P.underlying t = some (.int k)) (m : Nat) (x : MV) (h : TyM P m t x.cells) (he : ElF P t x) : ∃ a, x = .int k a ∧ (Lit.int k a).wf = true := by
  obtain ⟨n, hn', hw⟩ := tyM_intK hu h
  simp only [ElF, hu] at he
  rw [hn'] at he
  injection he with he
  exact ⟨n, he, hw⟩
theorem wf_u8 {n : Int} (h : (Lit.int .u8 n).wf = true) : ∃ m : Nat, n = (m : Int) ∧ m ≤ 255 := by
  simp [Lit.wf, IntKind.min, IntKind.max, IntKind.signed, IntKind.bits] at h
  exact ⟨n.toNat, by omega, by omega⟩
end
end Go.MV
end
section
set_option linter.unusedVariables false
set_option linter.unusedSimpArgs false
set_option maxRecDepth 20000
namespace Go.Proofs.YtihpnfpdocnniaaGreat
open Go Go.MV
theorem cells_u8 : Tryz.prog.cellsOf 5 = 1 := by kernel_rfl
theorem arg_bytes {ts : List TypeId} (hok : okTypes Tryz.prog ts = true) (ht : 40 ∈ ts) {H : Type} {enc : TypeId × Value → H} {W : World} {base b0 : Nat} {spare : Nat → Bool} {held : Bool} {r : Reach} {v : Value} {d : DataW H} {p : List MemPlace} (hv : Value.okWide Tryz.prog W r b0 40 v) (h : DataW.Trod enc Tryz.prog W base spare held 40 v d p) :
    ∃ l : List Nat, Rd (g0 W) W (.lst none 1 (l.map fun b : Nat => .int .u8 (b : Int))) v ∧ (∀ b ∈ l, b ≤ 255) ∧ l.length ≤ maxLen := by
  obtain ⟨c, h1, h2, h3⟩ := arg_slice (en := fun b : Nat => .int .u8 (b : Int)) (q := fun b => b ≤ 255) hok ht Tryz.underlying40 (fun m x _ h he => by
    obtain ⟨a, rfl, hw⟩ := el_int Tryz.underlying5 m x h he
    obtain ⟨k, rfl, hk⟩ := wf_u8 hw
    exact ⟨k, rfl, hk⟩) hv h
  rw [cells_u8] at h1
  exact ⟨c, h1, h2, h3⟩
end Go.Proofs.YtihpnfpdocnniaaGreat
end
section
set_option linter.unusedVariables false
set_option linter.unusedSimpArgs false
set_option maxRecDepth 20000
set_option maxHeartbeats 400000
namespace Go.Proofs.YtihpnfpdocnniaaGreat
open Go Go.MV
theorem own_get {S S1 L : MS} {k : Nat} (h : S1.length = S.length) : (S1 ++ L)[S.length + k]? = L[k]? := by rw [← h, getElem?_own]
theorem own_set {S S1 L : MS} {k : Nat} {o : MObj} (h : S1.length = S.length) : (S1 ++ L).set (S.length + k) o = S1 ++ L.set k o := by rw [← h, set_own]
theorem ret_cellK {P : Program} {fn : Func} {S S' L : MS} {R : MV → MS → Prop} {env : Env} {e : Exit} {a t k off : Nat} {l : List MV} {ta : Option Nat} {x y : MV} (hlen : S'.length = S.length) (he : e = .normal ∨ e = .ret) (hres : fn.results = #[.cell a t]) (ha : get env a = some (.ref (S.length + k) off)) (hl : L[k]? = some (.cells l)) (ht : tyAgg P t = some ta) (hm : loadMV ta l off = some x) (hs : Sub x y) (hc : Cl S'.length y) (hS : ClS S') (hR : R y S') : BodyQ P fn S R e env (S' ++ L) := by
 refine ⟨he, [x], y, S', L, ?_, hs, hc, rfl, by omega, .inr hS, hR⟩
 rw [hres]
 exact .cell ha (by rw [own_get hlen]; exact hl) ht hm .nil
theorem cls_row {S : MS} {t ty sz n : Nat} (h : ClS S) : ClS (S.set t (.row ty sz n)) := by
 intro i o ho
 rw [List.length_set]
 rcases List.mem_or_eq_of_mem_set (List.mem_of_getElem? ho) with hm | rfl
 ·obtain ⟨j, hj⟩ := List.getElem?_of_mem hm
  exact h j o hj
 ·exact trivial
def wX (n : Nat) (s : Bs) (xs : List Bs) : List Bs := if 0 < n then xs ++ [s] else xs
def wV (n : Nat) (ws : List Val) : List Val := if 0 < n then ws ++ [.mk (n : Int) 0 [] [] []] else ws
def rawM (t1 t2 : Nat) (xs : List Bs) (ws : List Val) : MV := .agg [.int .u64 0, .int .u64 0, .lst (some t1) 1 (xs.map encX), .lst0, .lst (some t2) 5 (encVs ws)]
theorem cl_rawM {n t1 t2 : Nat} {xs : List Bs} {ws : List Val} (h1 : t1 < n) (h2 : t2 < n) : Cl n (rawM t1 t2 xs ws) := .agg _ fun x hx => by
 simp only [List.mem_cons, List.not_mem_nil, or_false] at hx
 rcases hx with rfl | rfl | rfl | rfl | rfl
 ·exact .int _ _
 ·exact .int _ _
 ·exact cl_lstT h1 (fun e => cl_encX n e) (fun e => .inr rfl)
 ·exact .lst0
 ·rw [encVs_eq]; exact cl_lstT h2 (fun e => cl_encV n e) (fun e => by cases e; exact .inl rfl)
theorem with_pos (t1 t2 : Nat) (hne : t1 ≠ t2) (xs : List Bs) (ws : List Val) (s : Bs) (hx : xs.length ≤ 1000) (hw : ws.length ≤ 1000) (n : Nat) (hn : 0 < n) (S : MS) (h1 : S[t1]? = some (.row 9 1 xs.length)) (h2 : S[t2]? = some (.row 28 5 ws.length)) : MCalls Tryz.prog 17 [rawM t1 t2 xs ws, encX s, .int .u64 (n : Int)] S fun v σ' => v = rawM t1 t2 (xs ++ [s]) (ws ++ [.mk (n : Int) 0 [] [] []]) ∧ σ' = ((S.set t1 (.row 9 1 (xs.length + 1))).set t2 (.row 28 5 (ws.length + 1))) := by
 refine mcalls_body Tryz.func17 rfl Tryz.ntmps17 (Nat.le_of_ble_eq_true rfl) ?_
 refine mwp_facts fun _ hcl => ?_
 rw [List.append_nil] at hcl
 have hb1 := (List.getElem?_eq_some_iff.1 h1).1
 have hb2 := (List.getElem?_eq_some_iff.1 h2).1
 refine mwp_seq <| qR rfl <| qB rfl rfl rfl rfl rfl <| qO rfl <| op_alloc' rfl zm28 rfl rfl <| qN <| mwp_seq <| mwp_seq <| qR rfl <| qM rfl rfl rfl <| qC rfl rfl rfl rfl rfl <| qN <| mwp_cond_t rfl (decide_eq_true (by omega)) ?_
 refine mwp_draw [4, 10, 12, 14] [_, (S.set t1 (.row 9 1 (xs.length + 1))) ++ [.cells (rawM t1 t2 xs ws).cells, .cells [.int .u64 0, .int .u64 0, .lst0, .lst0, .lst0]], ((S.set t1 (.row 9 1 (xs.length + 1))).set t2 (.row 28 5 (ws.length + 1))) ++ [.cells (rawM t1 t2 xs ws).cells, .cells [.int .u64 0, .int .u64 0, .lst0, .lst0, .lst0]], ((S.set t1 (.row 9 1 (xs.length + 1))).set t2 (.row 28 5 (ws.length + 1))) ++ [.cells [.int .u64 0, .int .u64 0, .lst (some t1) 1 (xs.map encX ++ [encX s]), .lst0, .lst (some t2) 5 (encVs ws)], .cells [.int .u64 0, .int .u64 0, .lst0, .lst0, .lst0]], ((S.set t1 (.row 9 1 (xs.length + 1))).set t2 (.row 28 5 (ws.length + 1))) ++ [.cells [.int .u64 0, .int .u64 0, .lst (some t1) 1 (xs.map encX ++ [encX s]), .lst0, .lst (some t2) 5 (encVs ws ++ [encV (.mk (n : Int) 0 [] [] [])])], .cells [.int .u64 0, .int .u64 0, .lst0, .lst0, .lst0]]] mo (by decide) rfl rfl rfl rfl ?_
 refine dOps_op rfl rfl (.cons (op_fieldAddr_ref rfl rfl fo28_2 ⟨rfl, rfl⟩) (.cons (op_fieldAddr_ref rfl rfl fo28_2 ⟨rfl, rfl⟩) (.cons (op_fieldAddr_ref rfl rfl fo28_2 ⟨rfl, rfl⟩) (.nil)))) <| dO rfl rfl rfl (op_load_ref rfl rfl ((own_get (by simp)).trans rfl) ta24 rfl ⟨rfl, rfl⟩) ?_
 refine dOps_op rfl rfl (.cons (op_move rfl rfl ⟨rfl, rfl⟩) (.cons (op_move rfl rfl ⟨rfl, rfl⟩) (.cons (op_move rfl rfl ⟨rfl, rfl⟩) (.nil)))) <| dO rfl rfl rfl (op_buildSlice rfl Tryz.underlying24 el9 rfl rfl (by decide) (by decide) rfl rfl ⟨rfl, rfl⟩) ?_
 refine dOps_eff rfl rfl rfl rfl (op_append rfl Tryz.underlying24 el9 rfl rfl (get_app h1) (by simp) (by simp only [List.length_map, encVs_length, List.length_cons, List.length_nil]; omega) (by simp only [List.length_map, encVs_length, List.length_cons, List.length_nil]; omega) ⟨rfl, set_app h1⟩) ?_
 refine dOps_op rfl rfl (.cons (op_fieldAddr_ref rfl rfl fo28_4 ⟨rfl, rfl⟩) (.cons (op_fieldAddr_ref rfl rfl fo28_4 ⟨rfl, rfl⟩) (.cons (op_fieldAddr_ref rfl rfl fo28_4 ⟨rfl, rfl⟩) (.nil)))) <| dOps_op rfl rfl (.cons (op_load_ref rfl rfl ((own_get (by simp)).trans rfl) ta26 rfl ⟨rfl, rfl⟩) (.cons (op_load_ref rfl rfl ((own_get (by simp)).trans rfl) ta26 rfl ⟨rfl, rfl⟩) (.nil))) ?_
 refine dOps_op rfl rfl (.cons (op_move rfl rfl ⟨rfl, rfl⟩) (.cons (op_move rfl rfl ⟨rfl, rfl⟩) (.cons (op_move rfl rfl ⟨rfl, rfl⟩) (.cons (op_move rfl rfl ⟨rfl, rfl⟩) (.nil))))) <| dOps_op rfl rfl (.cons (op_viewTo (y := encV (.mk (n : Int) 0 [] [] [])) (op_build rfl Tryz.underlying28 zm28 (.cons fo28_0 sz22 rfl rfl (Nat.le_of_ble_eq_true rfl) .nil) (by kernel_rfl) ⟨rfl, rfl⟩) (.agg (.cons (.refl _) (.cons (.refl _) (.cons (.nil 1) (.cons (.nil 1) (.cons (.nil 5) .nil)))))) ⟨rfl, rfl⟩) (.cons (op_viewTo (y := encV (.mk (n : Int) 0 [] [] [])) (op_build rfl Tryz.underlying28 zm28 (.cons fo28_0 sz22 rfl rfl (Nat.le_of_ble_eq_true rfl) .nil) (by kernel_rfl) ⟨rfl, rfl⟩) (.agg (.cons (.refl _) (.cons (.refl _) (.cons (.nil 1) (.cons (.nil 1) (.cons (.nil 5) .nil)))))) ⟨rfl, rfl⟩) (.cons (op_viewTo (y := encV (.mk (n : Int) 0 [] [] [])) (op_build rfl Tryz.underlying28 zm28 (.cons fo28_0 sz22 rfl rfl (Nat.le_of_ble_eq_true rfl) .nil) (by kernel_rfl) ⟨rfl, rfl⟩) (.agg (.cons (.refl _) (.cons (.refl _) (.cons (.nil 1) (.cons (.nil 1) (.cons (.nil 5) .nil)))))) ⟨rfl, rfl⟩) (.cons (op_viewTo (y := encV (.mk (n : Int) 0 [] [] [])) (op_build rfl Tryz.underlying28 zm28 (.cons fo28_0 sz22 rfl rfl (Nat.le_of_ble_eq_true rfl) .nil) (by kernel_rfl) ⟨rfl, rfl⟩) (.agg (.cons (.refl _) (.cons (.refl _) (.cons (.nil 1) (.cons (.nil 1) (.cons (.nil 5) .nil)))))) ⟨rfl, rfl⟩) (.nil))))) ?_
 refine dOps_op rfl rfl (.cons (op_buildSlice rfl Tryz.underlying26 el28 rfl rfl (by decide) (by decide) rfl rfl ⟨rfl, rfl⟩) (.cons (op_buildSlice rfl Tryz.underlying26 el28 rfl rfl (by decide) (by decide) rfl rfl ⟨rfl, rfl⟩) (.nil))) ?_
 refine dOps_eff rfl rfl rfl rfl (op_append rfl Tryz.underlying26 el28 rfl rfl (get_app (get_ne hne h2)) (by simp [encVs_length]) (by simp only [List.length_map, encVs_length, List.length_cons, List.length_nil]; omega) (by simp only [List.length_map, encVs_length, List.length_cons, List.length_nil]; omega) ⟨rfl, set_app (get_ne hne h2)⟩) ?_
 refine dOps_op rfl rfl (.cons (op_fieldAddr_ref rfl rfl fo28_2 ⟨rfl, rfl⟩) (.cons (op_fieldAddr_ref rfl rfl fo28_2 ⟨rfl, rfl⟩) (.nil))) <| dOps_eff rfl rfl rfl rfl (op_store rfl rfl rfl ((own_get (by simp)).trans rfl) sz24 rfl rfl (Nat.le_of_ble_eq_true rfl) ⟨rfl, (own_set (by simp)).trans rfl⟩) ?_
 refine dO rfl rfl rfl (op_fieldAddr_ref rfl rfl fo28_4 ⟨rfl, rfl⟩) <| dOps_eff rfl rfl rfl rfl (op_store rfl rfl rfl ((own_get (by simp)).trans rfl) sz26 rfl rfl (Nat.le_of_ble_eq_true rfl) ⟨rfl, (own_set (by simp)).trans rfl⟩) ?_
 refine dOps_nil <| mwp_seq <| qR rfl <| qO rfl <| op_load_ref rfl rfl ((own_get (by simp)).trans rfl) ta28 rfl ?_
 refine qO rfl <| op_store rfl rfl rfl ((own_get (by simp)).trans rfl) sz28 rfl rfl (Nat.le_of_ble_eq_true rfl) ?_
 rw [own_set (by simp)]
 refine qN <| mwp_ret ?_
 have e1 : xs.map encX ++ [encX s] = (xs ++ [s]).map encX := by rw [List.map_append]; rfl
 have e2 : encVs ws ++ [encV (.mk (n : Int) 0 [] [] [])] = encVs (ws ++ [.mk (n : Int) 0 [] [] []]) := by rw [encVs_append]; rfl
 rw [e1, e2]
 exact ret_cellK (S' := ((S.set t1 (.row 9 1 (xs.length + 1))).set t2 (.row 28 5 (ws.length + 1)))) (by simp) (.inr rfl) Tryz.results17 rfl rfl ta28 rfl (.refl _) (cl_rawM (xs := xs ++ [s]) (ws := ws ++ [.mk (n : Int) 0 [] [] []]) (by simpa using hb1) (by simpa using hb2)) (cls_row (cls_row hcl)) ⟨rfl, rfl⟩
theorem with_zero (t1 t2 : Nat) (hne : t1 ≠ t2) (xs : List Bs) (ws : List Val) (s : Bs) (hx : xs.length ≤ 1000) (hw : ws.length ≤ 1000) (n : Nat) (hn : n = 0) (S : MS) (h1 : S[t1]? = some (.row 9 1 xs.length)) (h2 : S[t2]? = some (.row 28 5 ws.length)) : MCalls Tryz.prog 17 [rawM t1 t2 xs ws, encX s, .int .u64 (n : Int)] S fun v σ' => v = rawM t1 t2 xs ws ∧ σ' = S := by
 refine mcalls_body Tryz.func17 rfl Tryz.ntmps17 (Nat.le_of_ble_eq_true rfl) ?_
 subst hn
 refine mwp_facts fun _ hcl => ?_
 rw [List.append_nil] at hcl
 have hb1 := (List.getElem?_eq_some_iff.1 h1).1
 have hb2 := (List.getElem?_eq_some_iff.1 h2).1
 refine mwp_seq <| qR rfl <| qB rfl rfl rfl rfl rfl <| qO rfl <| op_alloc' rfl zm28 rfl rfl <| qN <| mwp_seq <| mwp_seq <| qR rfl <| qM rfl rfl rfl <| qC rfl rfl rfl rfl rfl <| qN <| mwp_cond_f rfl (rfl) <| mwp_skip <| mwp_seq <| qR rfl <| qO rfl <| op_load_ref rfl rfl ((own_get (by simp)).trans rfl) ta28 rfl ?_
 refine qO rfl <| op_store rfl rfl rfl ((own_get (by simp)).trans rfl) sz28 rfl rfl (Nat.le_of_ble_eq_true rfl) ?_
 rw [own_set rfl]
 refine qN <| mwp_ret ?_
 exact ret_cellK (S' := S) (by simp) (.inr rfl) Tryz.results17 rfl rfl ta28 rfl (.refl _) (cl_rawM (xs := xs) (ws := ws) (by simpa using hb1) (by simpa using hb2)) hcl ⟨rfl, rfl⟩
theorem mapWith_spec (t1 t2 : Nat) (hne : t1 ≠ t2) (xs : List Bs) (ws : List Val) (s : Bs) (hx : xs.length ≤ 1000) (hw : ws.length ≤ 1000) (S : MS) (h1 : S[t1]? = some (.row 9 1 xs.length)) (h2 : S[t2]? = some (.row 28 5 ws.length)) (n : Nat) : MCalls Tryz.prog 17 [rawM t1 t2 xs ws, encX s, .int .u64 (n : Int)] S fun v σ' => v = rawM t1 t2 (wX n s xs) (wV n ws) ∧ σ' = (S.set t1 (.row 9 1 (wX n s xs).length)).set t2 (.row 28 5 (wV n ws).length) := by
 unfold wX wV
 by_cases hn : 0 < n
 ·rw [if_pos hn, if_pos hn, List.length_append, List.length_append]
  exact with_pos t1 t2 hne xs ws s hx hw n hn S h1 h2
 ·rw [if_neg hn, if_neg hn, set_self_ h1, set_self_ h2]
  exact with_zero t1 t2 hne xs ws s hx hw n (by omega) S h1 h2
end Go.Proofs.YtihpnfpdocnniaaGreat
end
section
set_option linter.unusedVariables false
set_option linter.unusedSimpArgs false
set_option maxRecDepth 20000
set_option maxHeartbeats 400000
namespace Go.Proofs.YtihpnfpdocnniaaGreat
open Go Go.MV
def encB (b : Nat) : MV := .int .u8 (b : Int)
def keyM (j : Nat) : Bs := [UInt8.ofNat (97 + j)]
def nthM (a : List Nat) (j : Nat) : Nat := a.getD j 0 % 5
def idxM (f : Nat → Nat) (i : Nat) : List Nat := (List.range i).filter fun j => decide (0 < f j)
def keysM (f : Nat → Nat) (i : Nat) : List Bs := (idxM f i).map keyM
def valsM (f : Nat → Nat) (i : Nat) : List Val := (idxM f i).map fun j => .mk (f j : Int) 0 [] [] []
theorem idx_succ (f : Nat → Nat) (i : Nat) : idxM f (i + 1) = idxM f i ++ (if 0 < f i then [i] else []) := by
 unfold idxM
 rw [List.range_succ, List.filter_append]
 congr 1
 by_cases h : 0 < f i <;> simp [h]
theorem keys_succ (f : Nat → Nat) (i : Nat) : keysM f (i + 1) = wX (f i) (keyM i) (keysM f i) := by
 unfold keysM wX
 rw [idx_succ, List.map_append]
 by_cases h : 0 < f i <;> simp [h]
theorem vals_succ (f : Nat → Nat) (i : Nat) : valsM f (i + 1) = wV (f i) (valsM f i) := by
 unfold valsM wV
 rw [idx_succ, List.map_append]
 by_cases h : 0 < f i <;> simp [h]
theorem idx_len (f : Nat → Nat) (i : Nat) : (idxM f i).length ≤ i := Nat.le_trans (List.length_filter_le _ _) (by simp)
theorem keys_len (f : Nat → Nat) (i : Nat) : (keysM f i).length ≤ i := by unfold keysM; rw [List.length_map]; exact idx_len f i
theorem vals_len (f : Nat → Nat) (i : Nat) : (valsM f i).length ≤ i := by unfold valsM; rw [List.length_map]; exact idx_len f i
def mapM_ (f : Nat → Nat) (i : Nat) : Val := .mk 0 0 (keysM f i) [] (valsM f i)
theorem key_lt : ∀ j, j < 20 → ∀ i, i < j → Op.bytesLess (keyM i) (keyM j) = true := by decide +kernel
theorem key_cmp {i j : Nat} (h : i < j) (hj : j < 20) : cmpX (keyM i) (keyM j) < 0 ∧ ¬ cmpX (keyM j) (keyM i) < 0 := by
 have h1 := key_lt j hj i h
 have h2 : Op.bytesLess (keyM j) (keyM i) = false := by
  cases hq : Op.bytesLess (keyM j) (keyM i) with
  | false => rfl
  | true => exact absurd hq (ltB_asymm h1)
 rw [cmpX_eq, cmpX_eq, h1, h2]
 decide
theorem key_self (i : Nat) : ¬ cmpX (keyM i) (keyM i) < 0 := by
 rw [cmpX_eq]
 have : Op.bytesLess (keyM i) (keyM i) = false := by
  cases hq : Op.bytesLess (keyM i) (keyM i) with
  | false => rfl
  | true => exact absurd hq (ltB_irrefl _)
 rw [this]
 decide
def entM (f : Nat → Nat) (l : List Nat) : List (REnt Bs) := (l.filter fun j => decide (0 < f j)).map fun j => (keyM j, .mk (f j : Int) 0 [] [] [])
theorem entM_cons (f : Nat → Nat) (j : Nat) (l : List Nat) : entM f (j :: l) = if 0 < f j then (keyM j, .mk (f j : Int) 0 [] [] []) :: entM f l else entM f l := by
 unfold entM
 by_cases h : 0 < f j <;> simp [h]
theorem entM_keys {f : Nat → Nat} {l : List Nat} {e : REnt Bs} (h : e ∈ entM f l) : ∃ j ∈ l, e.1 = keyM j := by
 obtain ⟨j, hj, rfl⟩ := List.mem_map.1 h
 exact ⟨j, (List.mem_filter.1 hj).1, rfl⟩
theorem merge_fst {x : REnt Bs} {A B : List (REnt Bs)} (h : ∀ y ∈ B, cmpX x.1 y.1 < 0) : mergeE cmpX (x :: A) B = (x.1, x.2, none) :: mergeE cmpX A B := by
 cases B with
 | nil => rw [mergeE]
 | cons y B => rw [mergeE, if_pos (h y (.head _))]
theorem merge_snd {y : REnt Bs} {A B : List (REnt Bs)} (h : ∀ x ∈ A, cmpX y.1 x.1 < 0 ∧ ¬ cmpX x.1 y.1 < 0) : mergeE cmpX A (y :: B) = (y.1, y.2, none) :: mergeE cmpX A B := by
 cases A with
 | nil => rw [mergeE]
 | cons x A => rw [mergeE, if_neg (h x (.head _)).2, if_pos (h x (.head _)).1]
theorem go_merge (f g : Nat → Nat) : ∀ l : List Nat, l.Pairwise (· < ·) → (∀ j ∈ l, j < 20) → goE (bothF (.mk 1 [])) (mergeE cmpX (entM f l) (entM g l)) = some (entM (fun j => max (f j) (g j)) l)
 | [], _, _ => by simp [entM, mergeE, goE]
 | j :: l, hp, hb => by
  have ih := go_merge f g l (List.pairwise_cons.1 hp).2 fun i hi => hb i (.tail _ hi)
  have hlt := (List.pairwise_cons.1 hp).1
  have hk : ∀ (h : Nat → Nat) (e : REnt Bs), e ∈ entM h l → cmpX (keyM j) e.1 < 0 ∧ ¬ cmpX e.1 (keyM j) < 0 := fun h e he => by
   obtain ⟨i, hi, e2⟩ := entM_keys he
   rw [e2]
   exact key_cmp (hlt i hi) (hb i (.tail _ hi))
  rw [entM_cons, entM_cons, entM_cons]
  by_cases hf : 0 < f j <;> by_cases hg : 0 < g j
  ·rw [if_pos hf, if_pos hg, if_pos (by omega), mergeE, if_neg (key_self j), if_neg (key_self j), goE]
   simp only [ofE, both_num, ih, Option.map_some]
   rw [show max (f j : Int) (g j : Int) = ((max (f j) (g j) : Nat) : Int) by omega]
  ·rw [if_pos hf, if_neg hg, if_pos (by omega), merge_fst (fun y hy => (hk g y hy).1), goE]
   simp only [ofE, ih, Option.map_some]
   rw [show max (f j) (g j) = f j by omega]
  ·rw [if_neg hf, if_pos hg, if_pos (by omega), merge_snd (fun x hx => hk f x hx), goE]
   simp only [ofE, ih, Option.map_some]
   rw [show max (f j) (g j) = g j by omega]
  ·rw [if_neg hf, if_neg hg, if_neg (by omega)]
   exact ih
theorem zip_maps {α β γ : Type} (l : List α) (f : α → β) (g : α → γ) : (l.map f).zip (l.map g) = l.map fun x => (f x, g x) := by
 induction l with
 | nil => rfl
 | cons x l ih => simp [ih]
theorem entX_map (f : Nat → Nat) (i : Nat) : entX (mapM_ f i) = entM f (List.range i) := by
 unfold entX mapM_ keysM valsM entM idxM
 exact zip_maps _ _ _
theorem up_keys {f : Nat → Nat} {i : Nat} (h : i ≤ 20) : Up (keysM f i) := by
 unfold Up keysM idxM
 rw [List.pairwise_map]
 refine (List.pairwise_lt_range (n := i)).filter _ |>.imp_of_mem fun {a b} ha hb hab => ?_
 exact key_lt b (by have := List.mem_range.1 (List.mem_filter.1 hb).1; omega) a hab
theorem is_mapM {f : Nat → Nat} {i : Nat} (h : i ≤ 20) : isVF (.mk 4 [.mk 1 []]) (mapM_ f i) = true := by
 unfold mapM_
 rw [isVF_mk 4]
 have h1 : isRowF (keysM f i) = true := by
  unfold isRowF
  rw [(rises_up _).2 (up_keys h), decide_eq_true (by have := keys_len f i; omega)]
  simp [shortF, keysM, keyM]
 have h2 : (keysM f i).length = (valsM f i).length := by simp [keysM, valsM]
 have h3 : (valsM f i).all (fun x => isVF (.mk 1 []) x && !noneF (.mk 1 []) x) = true := by
  rw [List.all_eq_true]
  intro x hx
  obtain ⟨j, hj, rfl⟩ := List.mem_map.1 hx
  have hp : 0 < f j := by simpa using (List.mem_filter.1 hj).2
  rw [is_num]
  unfold noneF
  rw [decide_eq_false]
  ·rfl
  ·intro e
   have hb : BottomF (.mk 1 []) = noV := by unfold BottomF; rw [if_pos (by decide)]; rfl
   rw [hb] at e
   simp [noV] at e
   omega
 have h4 := vals_len f i
 simp [bareF, numsK, textsK, clocksK, valuesK, Val.nv, Val.mv, Val.sv, Val.cv, Val.vv, h1, h2, isVL]
 refine ⟨by omega, fun x hx => ?_⟩
 rw [List.all_eq_true] at h3
 simpa using h3 x hx
theorem both_mapM {f g : Nat → Nat} {i : Nat} (h : i ≤ 20) : bothF (.mk 4 [.mk 1 []]) (mapM_ f i) (mapM_ g i) = some (mapM_ (fun j => max (f j) (g j)) i) := by
 rw [bothF_mk, show bothB 4 (bothL [.mk 1 []]) (mapM_ f i) (mapM_ g i) = some (mapM_ (fun j => max (f j) (g j)) i) from ?_]
 ·refine cap_f ?_
  unfold mapM_
  rw [large_eq]
  have h1 := keys_len (fun j => max (f j) (g j)) i
  have h2 := vals_len (fun j => max (f j) (g j)) i
  simp
  omega
 ·show mapsF (bothF (.mk 1 [])) _ _ = _
  unfold mapsF mergedX
  rw [entX_map, entX_map, go_merge f g _ List.pairwise_lt_range (fun j hj => by have := List.mem_range.1 hj; omega)]
  simp [mapM_, keysM, valsM, entM, idxM, List.map_map, Function.comp_def]
theorem okV_mapM {f : Nat → Nat} (hf : ∀ j, f j < 5) (i : Nat) : okV (mapM_ f i) := by
 unfold mapM_
 refine okV_mk.2 ⟨by omega, by omega, by simp, fun x hx => ?_⟩
 obtain ⟨j, hj, rfl⟩ := List.mem_map.1 hx
 exact okV_num (by have := hf j; omega)
theorem nth_yes {a : List Nat} {i x : Nat} (h : a[i]? = some x) : x % 5 = nthM a i := by unfold nthM; simp [h]
theorem nth_no {a : List Nat} {i : Nat} (h : ¬ i < a.length) : nthM a i = 0 := by unfold nthM; simp [List.getElem?_eq_none (Nat.le_of_not_lt h)]
theorem JoinMaps_spec (a b : List Nat) (S : MS) : MCalls Tryz.prog 5 [.lst none 1 (a.map encB), .lst none 1 (b.map encB)] S fun v σ' => v = .bool true ∧ σ' = S := by
 refine mcalls_body Tryz.func5 rfl Tryz.ntmps5 (Nat.le_of_ble_eq_true rfl) ?_
 refine mwp_seq <| qR rfl <| qA rfl rfl rfl <| qN <| mwp_seq <| mwp_seq <| qR rfl ?_
 refine wOps_op rfl (op_call rfl rfl rfl co10 ((knownJ_spec _).mono ?_))
 rintro _ _ ⟨rfl, rfl⟩
 refine qO rfl <| op_not rfl rfl <| qN <| mwp_cond_f rfl (rfl) <| mwp_skip <| mwp_seq <| mwp_seq <| qR rfl <| qM rfl rfl rfl <| qE rfl rfl Tryz.underlying40 rfl <| qC rfl rfl rfl rfl rfl <| qM rfl rfl rfl ?_
 refine wOps_case (fun h19 => ?_) (fun h19 => ?_)
 ·
  refine qS rfl <| qS rfl <| qS rfl <| qP rfl rfl rfl rfl <| qN <| mwp_cond_t rfl (rfl) <| mwp_seq <| qR rfl <| qA rfl rfl rfl <| qN <| mwp_ret ?_
  exact ret_tmp (.inr rfl) Tryz.results5 rfl (.of_eq (rfl)) (.bool _) ⟨rfl, rfl⟩
 ·
  have hal : a.length ≤ 20 := by rw [List.length_map] at h19; have := of_decide_eq_false h19; omega
  refine qM rfl rfl rfl <| qE rfl rfl Tryz.underlying40 rfl <| qC rfl rfl rfl rfl rfl <| qP rfl rfl rfl rfl <| qN ?_
  refine mwp_cond_split rfl (fun h23 => ?_) (fun h23 => ?_)
  ·
   refine mwp_seq <| qR rfl <| qA rfl rfl rfl <| qN <| mwp_ret ?_
   exact ret_tmp (.inr rfl) Tryz.results5 rfl (.of_eq (rfl)) (.bool _) ⟨rfl, rfl⟩
  ·
   have hbl : b.length ≤ 20 := by rw [List.length_map] at h23; have := of_decide_eq_false h23; omega
   refine mwp_skip <| mwp_seq <| qR rfl <| qO rfl <| op_build rfl Tryz.underlying28 zm28 .nil (by kernel_rfl) ?_
   refine qO rfl <| op_build rfl Tryz.underlying28 zm28 .nil (by kernel_rfl) ?_
   refine qO rfl <| op_build rfl Tryz.underlying28 zm28 .nil (by kernel_rfl) ?_
   refine qO rfl <| op_alloc' rfl zm28 rfl rfl <| qO rfl <| op_alloc' rfl zm28 rfl rfl <| qO rfl <| op_alloc' rfl zm28 rfl rfl <| qO rfl <| op_store' rfl rfl rfl rfl sz28 rfl rfl (Nat.le_of_ble_eq_true rfl) rfl <| qO rfl <| op_store' rfl rfl rfl rfl sz28 rfl rfl (Nat.le_of_ble_eq_true rfl) rfl <| qO rfl <| op_store' rfl rfl rfl rfl sz28 rfl rfl (Nat.le_of_ble_eq_true rfl) rfl <| qN <| mwp_seq <| mwp_seq <| qR rfl <| qA rfl rfl rfl <| qN <| mwp_block <| mwp_cellrowAt 0 2 9 1 rfl rfl (Nat.le_refl _) rfl rfl <| mwp_cellrowAt 0 4 28 5 rfl rfl (Nat.le_refl _) rfl rfl <| mwp_cellrowAt 1 2 9 1 rfl rfl (Nat.le_refl _) rfl rfl <| mwp_cellrowAt 1 4 28 5 rfl rfl (Nat.le_refl _) rfl rfl <| mwp_cellrowAt 2 2 9 1 rfl rfl (Nat.le_refl _) rfl rfl <| mwp_cellrowAt 2 4 28 5 rfl rfl (Nat.le_refl _) rfl rfl ?_
   refine mwp_loopK (α := Nat) [(0, _), (1, _), (5, _), (6, _), (7, _)] (fun i => [(8, .int .i64 (i : Int))]) (fun i => [.cells (rawM (S.length + 3) (S.length + 4) (keysM (nthM a) i) (valsM (nthM a) i)).cells, .cells (rawM (S.length + 5) (S.length + 6) (keysM (nthM b) i) (valsM (nthM b) i)).cells, .cells (rawM (S.length + 7) (S.length + 8) (keysM (fun j => max (nthM a j) (nthM b j)) i) (valsM (fun j => max (nthM a j) (nthM b j)) i)).cells, .row 9 1 (keysM (nthM a) i).length, .row 28 5 (valsM (nthM a) i).length, .row 9 1 (keysM (nthM b) i).length, .row 28 5 (valsM (nthM b) i).length, .row 9 1 (keysM (fun j => max (nthM a j) (nthM b j)) i).length, .row 28 5 (valsM (fun j => max (nthM a j) (nthM b j)) i).length]) (fun i => i ≤ max a.length b.length) (fun i => max a.length b.length - i) (0) (.keep rfl (.keep rfl (.keep rfl (.keep rfl (.keep rfl (.nil)))))) (.keep rfl (.nil)) (by omega) (rfl) ?_
   rintro i hi
   have hkx := keys_len (nthM a) i
   have hky := keys_len (nthM b) i
   have hkz := keys_len (fun j => max (nthM a j) (nthM b j)) i
   have hvx := vals_len (nthM a) i
   have hvy := vals_len (nthM b) i
   have hvz := vals_len (fun j => max (nthM a j) (nthM b j)) i
   refine mwp_seq <| mwp_seq <| qR rfl <| qM rfl rfl rfl <| qM rfl rfl rfl <| qE rfl rfl Tryz.underlying40 rfl <| qC rfl rfl rfl rfl rfl <| qM rfl rfl rfl ?_
   refine wOps_case (fun h31 => ?_) (fun h31 => ?_)
   ·
    have hia : i < a.length := by rw [List.length_map] at h31; have := of_decide_eq_true h31; omega
    refine qS rfl <| qS rfl <| qS rfl <| qS rfl <| qP rfl rfl rfl rfl <| qN <| mwp_cond_t rfl (rfl) <| mwp_skip <| mwp_seq <| mwp_block <| mwp_seq <| qR rfl <| qM rfl rfl rfl <| qO rfl <| op_arith rfl rfl rfl (wadd (a := 97) (b := i) rfl (by omega)) ?_
    refine qO rfl <| op_convInt rfl Tryz.underlying3 Tryz.underlying5 rfl (u8_cv (show 97 + i < 256 by omega)) ?_
    refine qO rfl <| op_buildSlice rfl Tryz.underlying40 el5 rfl rfl (by decide) (by decide) rfl rfl ?_
    refine qO rfl <| op_conv_bytes (l := keyM i) rfl Tryz.underlying40 Tryz.underlying5 Tryz.underlying9 rfl (rfl) <| qA rfl rfl rfl <| qN <| mwp_seq <| qR rfl <| qA rfl rfl rfl <| qA rfl rfl rfl <| qN ?_
    refine mwp_join (E := [(0, .lst none 1 (a.map encB)), (1, .lst none 1 (b.map encB)), (5, .ref (S.length + 0) 0), (6, .ref (S.length + 1) 0), (7, .ref (S.length + 2) 0), (8, .int .i64 (i : Int)), (9, encX (keyM i)), (10, .int .u64 ((nthM a i : Nat) : Int)), (11, .int .u64 0)]) (S ++ [.cells (rawM (S.length + 3) (S.length + 4) (keysM (nthM a) i) (valsM (nthM a) i)).cells, .cells (rawM (S.length + 5) (S.length + 6) (keysM (nthM b) i) (valsM (nthM b) i)).cells, .cells (rawM (S.length + 7) (S.length + 8) (keysM (fun j => max (nthM a j) (nthM b j)) i) (valsM (fun j => max (nthM a j) (nthM b j)) i)).cells, .row 9 1 (keysM (nthM a) i).length, .row 28 5 (valsM (nthM a) i).length, .row 9 1 (keysM (nthM b) i).length, .row 28 5 (valsM (nthM b) i).length, .row 9 1 (keysM (fun j => max (nthM a j) (nthM b j)) i).length, .row 28 5 (valsM (fun j => max (nthM a j) (nthM b j)) i).length]) ?_ ?_
    ·
     refine mwp_seq <| qR rfl <| qM rfl rfl rfl <| qM rfl rfl rfl <| qE rfl rfl Tryz.underlying40 rfl <| qC rfl rfl rfl rfl rfl <| qN ?_
     refine mwp_cond_split rfl (fun h47 => ?_) (fun h47 => ?_)
     ·
      have hil : i < a.length := by rw [List.length_map] at h47; have := of_decide_eq_true h47; omega
      obtain ⟨x, hs⟩ : ∃ q, a[i]? = some q := ⟨_, List.getElem?_eq_getElem hil⟩
      refine qR rfl <| qM rfl rfl rfl <| qM rfl rfl rfl <| qO rfl <| op_indexAddr rfl Tryz.underlying40 sz5 (by decide) rfl rfl rfl (get_map hs) ?_
      refine qO rfl <| op_load_sptr rfl rfl ta5 rfl <| qO rfl <| op_rem rfl rfl rfl (by decide) (rem_nat x 5) ?_
      refine qO rfl <| op_convInt rfl Tryz.underlying5 Tryz.underlying22 rfl (u64_nat (show x % 5 < _ by omega)) ?_
      refine qA rfl rfl rfl <| qN ?_
      exact ⟨rfl, rfl, (.keep rfl (.keep rfl (.keep rfl (.keep rfl (.keep rfl (.keep rfl (.keep rfl (.eq rfl (by first | rw [nth_yes hs] | (rw [nth_no hil]; rfl)) (.keep rfl (.nil))))))))))⟩
     ·
      have hil : ¬ i < a.length := by rw [List.length_map] at h47; have := of_decide_eq_false h47; omega
      refine mwp_skip ?_
      exact ⟨rfl, rfl, (.keep rfl (.keep rfl (.keep rfl (.keep rfl (.keep rfl (.keep rfl (.keep rfl (.eq rfl (by first | rw [nth_yes hs] | (rw [nth_no hil]; rfl)) (.keep rfl (.nil))))))))))⟩
    ·
     refine mwp_join (E := [(0, .lst none 1 (a.map encB)), (1, .lst none 1 (b.map encB)), (5, .ref (S.length + 0) 0), (6, .ref (S.length + 1) 0), (7, .ref (S.length + 2) 0), (8, .int .i64 (i : Int)), (9, encX (keyM i)), (10, .int .u64 ((nthM a i : Nat) : Int)), (11, .int .u64 ((nthM b i : Nat) : Int))]) (S ++ [.cells (rawM (S.length + 3) (S.length + 4) (keysM (nthM a) i) (valsM (nthM a) i)).cells, .cells (rawM (S.length + 5) (S.length + 6) (keysM (nthM b) i) (valsM (nthM b) i)).cells, .cells (rawM (S.length + 7) (S.length + 8) (keysM (fun j => max (nthM a j) (nthM b j)) i) (valsM (fun j => max (nthM a j) (nthM b j)) i)).cells, .row 9 1 (keysM (nthM a) i).length, .row 28 5 (valsM (nthM a) i).length, .row 9 1 (keysM (nthM b) i).length, .row 28 5 (valsM (nthM b) i).length, .row 9 1 (keysM (fun j => max (nthM a j) (nthM b j)) i).length, .row 28 5 (valsM (fun j => max (nthM a j) (nthM b j)) i).length]) ?_ ?_
     ·
      refine mwp_seq <| qR rfl <| qM rfl rfl rfl <| qM rfl rfl rfl <| qE rfl rfl Tryz.underlying40 rfl <| qC rfl rfl rfl rfl rfl <| qN ?_
      refine mwp_cond_split rfl (fun h57 => ?_) (fun h57 => ?_)
      ·
       have hil : i < b.length := by rw [List.length_map] at h57; have := of_decide_eq_true h57; omega
       obtain ⟨x, hs⟩ : ∃ q, b[i]? = some q := ⟨_, List.getElem?_eq_getElem hil⟩
       refine qR rfl <| qM rfl rfl rfl <| qM rfl rfl rfl <| qO rfl <| op_indexAddr rfl Tryz.underlying40 sz5 (by decide) rfl rfl rfl (get_map hs) ?_
       refine qO rfl <| op_load_sptr rfl rfl ta5 rfl <| qO rfl <| op_rem rfl rfl rfl (by decide) (rem_nat x 5) ?_
       refine qO rfl <| op_convInt rfl Tryz.underlying5 Tryz.underlying22 rfl (u64_nat (show x % 5 < _ by omega)) ?_
       refine qA rfl rfl rfl <| qN ?_
       exact ⟨rfl, rfl, (.keep rfl (.keep rfl (.keep rfl (.keep rfl (.keep rfl (.keep rfl (.keep rfl (.keep rfl (.eq rfl (by first | rw [nth_yes hs] | (rw [nth_no hil]; rfl)) (.nil))))))))))⟩
      ·
       have hil : ¬ i < b.length := by rw [List.length_map] at h57; have := of_decide_eq_false h57; omega
       refine mwp_skip ?_
       exact ⟨rfl, rfl, (.keep rfl (.keep rfl (.keep rfl (.keep rfl (.keep rfl (.keep rfl (.keep rfl (.keep rfl (.eq rfl (by first | rw [nth_yes hs] | (rw [nth_no hil]; rfl)) (.nil))))))))))⟩
     ·
      refine mwp_draw [3, 7, 13, 14, 15, 16] [_, S ++ [.cells (rawM (S.length + 3) (S.length + 4) (keysM (nthM a) i) (valsM (nthM a) i)).cells, .cells (rawM (S.length + 5) (S.length + 6) (keysM (nthM b) i) (valsM (nthM b) i)).cells, .cells (rawM (S.length + 7) (S.length + 8) (keysM (fun j => max (nthM a j) (nthM b j)) i) (valsM (fun j => max (nthM a j) (nthM b j)) i)).cells, .row 9 1 (keysM (nthM a) (i + 1)).length, .row 28 5 (valsM (nthM a) (i + 1)).length, .row 9 1 (keysM (nthM b) i).length, .row 28 5 (valsM (nthM b) i).length, .row 9 1 (keysM (fun j => max (nthM a j) (nthM b j)) i).length, .row 28 5 (valsM (fun j => max (nthM a j) (nthM b j)) i).length], S ++ [.cells (rawM (S.length + 3) (S.length + 4) (keysM (nthM a) i) (valsM (nthM a) i)).cells, .cells (rawM (S.length + 5) (S.length + 6) (keysM (nthM b) i) (valsM (nthM b) i)).cells, .cells (rawM (S.length + 7) (S.length + 8) (keysM (fun j => max (nthM a j) (nthM b j)) i) (valsM (fun j => max (nthM a j) (nthM b j)) i)).cells, .row 9 1 (keysM (nthM a) (i + 1)).length, .row 28 5 (valsM (nthM a) (i + 1)).length, .row 9 1 (keysM (nthM b) (i + 1)).length, .row 28 5 (valsM (nthM b) (i + 1)).length, .row 9 1 (keysM (fun j => max (nthM a j) (nthM b j)) i).length, .row 28 5 (valsM (fun j => max (nthM a j) (nthM b j)) i).length], S ++ [.cells (rawM (S.length + 3) (S.length + 4) (keysM (nthM a) i) (valsM (nthM a) i)).cells, .cells (rawM (S.length + 5) (S.length + 6) (keysM (nthM b) i) (valsM (nthM b) i)).cells, .cells (rawM (S.length + 7) (S.length + 8) (keysM (fun j => max (nthM a j) (nthM b j)) i) (valsM (fun j => max (nthM a j) (nthM b j)) i)).cells, .row 9 1 (keysM (nthM a) (i + 1)).length, .row 28 5 (valsM (nthM a) (i + 1)).length, .row 9 1 (keysM (nthM b) (i + 1)).length, .row 28 5 (valsM (nthM b) (i + 1)).length, .row 9 1 (keysM (fun j => max (nthM a j) (nthM b j)) (i + 1)).length, .row 28 5 (valsM (fun j => max (nthM a j) (nthM b j)) (i + 1)).length], S ++ [.cells (rawM (S.length + 3) (S.length + 4) (keysM (nthM a) (i + 1)) (valsM (nthM a) (i + 1))).cells, .cells (rawM (S.length + 5) (S.length + 6) (keysM (nthM b) i) (valsM (nthM b) i)).cells, .cells (rawM (S.length + 7) (S.length + 8) (keysM (fun j => max (nthM a j) (nthM b j)) i) (valsM (fun j => max (nthM a j) (nthM b j)) i)).cells, .row 9 1 (keysM (nthM a) (i + 1)).length, .row 28 5 (valsM (nthM a) (i + 1)).length, .row 9 1 (keysM (nthM b) (i + 1)).length, .row 28 5 (valsM (nthM b) (i + 1)).length, .row 9 1 (keysM (fun j => max (nthM a j) (nthM b j)) (i + 1)).length, .row 28 5 (valsM (fun j => max (nthM a j) (nthM b j)) (i + 1)).length], S ++ [.cells (rawM (S.length + 3) (S.length + 4) (keysM (nthM a) (i + 1)) (valsM (nthM a) (i + 1))).cells, .cells (rawM (S.length + 5) (S.length + 6) (keysM (nthM b) (i + 1)) (valsM (nthM b) (i + 1))).cells, .cells (rawM (S.length + 7) (S.length + 8) (keysM (fun j => max (nthM a j) (nthM b j)) i) (valsM (fun j => max (nthM a j) (nthM b j)) i)).cells, .row 9 1 (keysM (nthM a) (i + 1)).length, .row 28 5 (valsM (nthM a) (i + 1)).length, .row 9 1 (keysM (nthM b) (i + 1)).length, .row 28 5 (valsM (nthM b) (i + 1)).length, .row 9 1 (keysM (fun j => max (nthM a j) (nthM b j)) (i + 1)).length, .row 28 5 (valsM (fun j => max (nthM a j) (nthM b j)) (i + 1)).length], S ++ [.cells (rawM (S.length + 3) (S.length + 4) (keysM (nthM a) (i + 1)) (valsM (nthM a) (i + 1))).cells, .cells (rawM (S.length + 5) (S.length + 6) (keysM (nthM b) (i + 1)) (valsM (nthM b) (i + 1))).cells, .cells (rawM (S.length + 7) (S.length + 8) (keysM (fun j => max (nthM a j) (nthM b j)) (i + 1)) (valsM (fun j => max (nthM a j) (nthM b j)) (i + 1))).cells, .row 9 1 (keysM (nthM a) (i + 1)).length, .row 28 5 (valsM (nthM a) (i + 1)).length, .row 9 1 (keysM (nthM b) (i + 1)).length, .row 28 5 (valsM (nthM b) (i + 1)).length, .row 9 1 (keysM (fun j => max (nthM a j) (nthM b j)) (i + 1)).length, .row 28 5 (valsM (fun j => max (nthM a j) (nthM b j)) (i + 1)).length]] mo (by decide) rfl rfl rfl rfl ?_
      refine dO rfl rfl rfl (op_load' rfl rfl rfl ta28 rfl ⟨rfl, rfl⟩) <| dO rfl rfl rfl (op_move rfl rfl ⟨rfl, rfl⟩) <| dO rfl rfl rfl (op_move rfl rfl ⟨rfl, rfl⟩) ?_
      refine dOps_eff rfl rfl rfl rfl (op_call rfl rfl rfl co17 ((mapWith_spec (S.length + 3) (S.length + 4) (by omega) (keysM (nthM a) i) (valsM (nthM a) i) (keyM i) (by omega) (by omega) _ (by rw [getElem?_own]; rfl) (by rw [getElem?_own]; rfl) (nthM a i)).mono fun _ _ h => ⟨h.1.trans (by rw [← keys_succ (nthM a) i, ← vals_succ (nthM a) i]), h.2.trans (by rw [← keys_succ (nthM a) i, ← vals_succ (nthM a) i, set_own, set_own]; rfl)⟩)) ?_
      refine dOps_op rfl rfl (.cons (op_load' rfl rfl rfl ta28 rfl ⟨rfl, rfl⟩) (.cons (op_load' rfl rfl rfl ta28 rfl ⟨rfl, rfl⟩) (.nil))) <| dOps_op rfl rfl (.cons (op_move rfl rfl ⟨rfl, rfl⟩) (.cons (op_move rfl rfl ⟨rfl, rfl⟩) (.nil))) <| dOps_op rfl rfl (.cons (op_move rfl rfl ⟨rfl, rfl⟩) (.cons (op_move rfl rfl ⟨rfl, rfl⟩) (.nil))) ?_
      refine dOps_eff rfl rfl rfl rfl (op_call rfl rfl rfl co17 ((mapWith_spec (S.length + 5) (S.length + 6) (by omega) (keysM (nthM b) i) (valsM (nthM b) i) (keyM i) (by omega) (by omega) _ (by rw [getElem?_own]; rfl) (by rw [getElem?_own]; rfl) (nthM b i)).mono fun _ _ h => ⟨h.1.trans (by rw [← keys_succ (nthM b) i, ← vals_succ (nthM b) i]), h.2.trans (by rw [← keys_succ (nthM b) i, ← vals_succ (nthM b) i, set_own, set_own]; rfl)⟩)) ?_
      refine dOps_op rfl rfl (.cons (op_load' rfl rfl rfl ta28 rfl ⟨rfl, rfl⟩) (.cons (op_load' rfl rfl rfl ta28 rfl ⟨rfl, rfl⟩) (.cons (op_load' rfl rfl rfl ta28 rfl ⟨rfl, rfl⟩) (.nil)))) <| dOps_op rfl rfl (.cons (op_move rfl rfl ⟨rfl, rfl⟩) (.cons (op_move rfl rfl ⟨rfl, rfl⟩) (.cons (op_move rfl rfl ⟨rfl, rfl⟩) (.nil)))) <| dOps_op rfl rfl (.cons (op_move rfl rfl ⟨rfl, rfl⟩) (.cons (op_move rfl rfl ⟨rfl, rfl⟩) (.cons (op_move rfl rfl ⟨rfl, rfl⟩) (.cons (op_move rfl rfl ⟨rfl, rfl⟩) (.cons (op_move rfl rfl ⟨rfl, rfl⟩) (.cons (op_move rfl rfl ⟨rfl, rfl⟩) (.nil))))))) <| dOps_op rfl rfl (.cons (op_move rfl rfl ⟨rfl, rfl⟩) (.cons (op_move rfl rfl ⟨rfl, rfl⟩) (.cons (op_move rfl rfl ⟨rfl, rfl⟩) (.cons (op_move rfl rfl ⟨rfl, rfl⟩) (.cons (op_move rfl rfl ⟨rfl, rfl⟩) (.cons (op_move rfl rfl ⟨rfl, rfl⟩) (.nil))))))) <| dOps_op rfl rfl (.cons (op_max2' rfl rfl rfl (max_nat _ _) ⟨rfl, rfl⟩) (.cons (op_max2' rfl rfl rfl (max_nat _ _) ⟨rfl, rfl⟩) (.cons (op_max2' rfl rfl rfl (max_nat _ _) ⟨rfl, rfl⟩) (.nil)))) ?_
      refine dOps_eff rfl rfl rfl rfl (op_call rfl rfl rfl co17 ((mapWith_spec (S.length + 7) (S.length + 8) (by omega) (keysM (fun j => max (nthM a j) (nthM b j)) i) (valsM (fun j => max (nthM a j) (nthM b j)) i) (keyM i) (by omega) (by omega) _ (by rw [getElem?_own]; rfl) (by rw [getElem?_own]; rfl) (max (nthM a i) (nthM b i))).mono fun _ _ h => ⟨h.1.trans (by rw [← keys_succ (fun j => max (nthM a j) (nthM b j)) i, ← vals_succ (fun j => max (nthM a j) (nthM b j)) i]), h.2.trans (by rw [← keys_succ (fun j => max (nthM a j) (nthM b j)) i, ← vals_succ (fun j => max (nthM a j) (nthM b j)) i, set_own, set_own]; rfl)⟩)) ?_
      refine dOps_eff rfl rfl rfl rfl (op_store' rfl rfl rfl rfl sz28 rfl rfl (Nat.le_of_ble_eq_true rfl) rfl ⟨rfl, rfl⟩) <| dOps_eff rfl rfl rfl rfl (op_store' rfl rfl rfl rfl sz28 rfl rfl (Nat.le_of_ble_eq_true rfl) rfl ⟨rfl, rfl⟩) <| dOps_eff rfl rfl rfl rfl (op_store' rfl rfl rfl rfl sz28 rfl rfl (Nat.le_of_ble_eq_true rfl) rfl ⟨rfl, rfl⟩) <| dOps_nil <| qR rfl <| qM rfl rfl rfl <| qO rfl <| op_arith rfl rfl rfl rfl <| qA rfl rfl rfl <| qN ?_
      refine ⟨i + 1, by omega, by omega, rfl, (.keep rfl (.keep rfl (.keep rfl (.keep rfl (.keep rfl (.nil)))))), (.eq rfl (int_succ (show i < max a.length b.length by omega) (by simp only [maxLen]; omega)) (.nil))⟩
   ·
    have hia : ¬ i < a.length := by rw [List.length_map] at h31; have := of_decide_eq_false h31; omega
    refine qM rfl rfl rfl <| qM rfl rfl rfl <| qE rfl rfl Tryz.underlying40 rfl <| qC rfl rfl rfl rfl rfl <| qP rfl rfl rfl rfl <| qN ?_
    refine mwp_cond_split rfl (fun h36 => ?_) (fun h36 => ?_)
    ·
     have hib : i < b.length := by rw [List.length_map] at h36; have := of_decide_eq_true h36; omega
     refine mwp_skip <| mwp_seq <| mwp_block <| mwp_seq <| qR rfl <| qM rfl rfl rfl <| qO rfl <| op_arith rfl rfl rfl (wadd (a := 97) (b := i) rfl (by omega)) ?_
     refine qO rfl <| op_convInt rfl Tryz.underlying3 Tryz.underlying5 rfl (u8_cv (show 97 + i < 256 by omega)) ?_
     refine qO rfl <| op_buildSlice rfl Tryz.underlying40 el5 rfl rfl (by decide) (by decide) rfl rfl ?_
     refine qO rfl <| op_conv_bytes (l := keyM i) rfl Tryz.underlying40 Tryz.underlying5 Tryz.underlying9 rfl (rfl) <| qA rfl rfl rfl <| qN <| mwp_seq <| qR rfl <| qA rfl rfl rfl <| qA rfl rfl rfl <| qN ?_
     refine mwp_join (E := [(0, .lst none 1 (a.map encB)), (1, .lst none 1 (b.map encB)), (5, .ref (S.length + 0) 0), (6, .ref (S.length + 1) 0), (7, .ref (S.length + 2) 0), (8, .int .i64 (i : Int)), (9, encX (keyM i)), (10, .int .u64 ((nthM a i : Nat) : Int)), (11, .int .u64 0)]) (S ++ [.cells (rawM (S.length + 3) (S.length + 4) (keysM (nthM a) i) (valsM (nthM a) i)).cells, .cells (rawM (S.length + 5) (S.length + 6) (keysM (nthM b) i) (valsM (nthM b) i)).cells, .cells (rawM (S.length + 7) (S.length + 8) (keysM (fun j => max (nthM a j) (nthM b j)) i) (valsM (fun j => max (nthM a j) (nthM b j)) i)).cells, .row 9 1 (keysM (nthM a) i).length, .row 28 5 (valsM (nthM a) i).length, .row 9 1 (keysM (nthM b) i).length, .row 28 5 (valsM (nthM b) i).length, .row 9 1 (keysM (fun j => max (nthM a j) (nthM b j)) i).length, .row 28 5 (valsM (fun j => max (nthM a j) (nthM b j)) i).length]) ?_ ?_
     ·
      refine mwp_seq <| qR rfl <| qM rfl rfl rfl <| qM rfl rfl rfl <| qE rfl rfl Tryz.underlying40 rfl <| qC rfl rfl rfl rfl rfl <| qN ?_
      refine mwp_cond_split rfl (fun h47 => ?_) (fun h47 => ?_)
      ·
       have hil : i < a.length := by rw [List.length_map] at h47; have := of_decide_eq_true h47; omega
       obtain ⟨x, hs⟩ : ∃ q, a[i]? = some q := ⟨_, List.getElem?_eq_getElem hil⟩
       refine qR rfl <| qM rfl rfl rfl <| qM rfl rfl rfl <| qO rfl <| op_indexAddr rfl Tryz.underlying40 sz5 (by decide) rfl rfl rfl (get_map hs) ?_
       refine qO rfl <| op_load_sptr rfl rfl ta5 rfl <| qO rfl <| op_rem rfl rfl rfl (by decide) (rem_nat x 5) ?_
       refine qO rfl <| op_convInt rfl Tryz.underlying5 Tryz.underlying22 rfl (u64_nat (show x % 5 < _ by omega)) ?_
       refine qA rfl rfl rfl <| qN ?_
       exact ⟨rfl, rfl, (.keep rfl (.keep rfl (.keep rfl (.keep rfl (.keep rfl (.keep rfl (.keep rfl (.eq rfl (by first | rw [nth_yes hs] | (rw [nth_no hil]; rfl)) (.keep rfl (.nil))))))))))⟩
      ·
       have hil : ¬ i < a.length := by rw [List.length_map] at h47; have := of_decide_eq_false h47; omega
       refine mwp_skip ?_
       exact ⟨rfl, rfl, (.keep rfl (.keep rfl (.keep rfl (.keep rfl (.keep rfl (.keep rfl (.keep rfl (.eq rfl (by first | rw [nth_yes hs] | (rw [nth_no hil]; rfl)) (.keep rfl (.nil))))))))))⟩
     ·
      refine mwp_join (E := [(0, .lst none 1 (a.map encB)), (1, .lst none 1 (b.map encB)), (5, .ref (S.length + 0) 0), (6, .ref (S.length + 1) 0), (7, .ref (S.length + 2) 0), (8, .int .i64 (i : Int)), (9, encX (keyM i)), (10, .int .u64 ((nthM a i : Nat) : Int)), (11, .int .u64 ((nthM b i : Nat) : Int))]) (S ++ [.cells (rawM (S.length + 3) (S.length + 4) (keysM (nthM a) i) (valsM (nthM a) i)).cells, .cells (rawM (S.length + 5) (S.length + 6) (keysM (nthM b) i) (valsM (nthM b) i)).cells, .cells (rawM (S.length + 7) (S.length + 8) (keysM (fun j => max (nthM a j) (nthM b j)) i) (valsM (fun j => max (nthM a j) (nthM b j)) i)).cells, .row 9 1 (keysM (nthM a) i).length, .row 28 5 (valsM (nthM a) i).length, .row 9 1 (keysM (nthM b) i).length, .row 28 5 (valsM (nthM b) i).length, .row 9 1 (keysM (fun j => max (nthM a j) (nthM b j)) i).length, .row 28 5 (valsM (fun j => max (nthM a j) (nthM b j)) i).length]) ?_ ?_
      ·
       refine mwp_seq <| qR rfl <| qM rfl rfl rfl <| qM rfl rfl rfl <| qE rfl rfl Tryz.underlying40 rfl <| qC rfl rfl rfl rfl rfl <| qN ?_
       refine mwp_cond_split rfl (fun h57 => ?_) (fun h57 => ?_)
       ·
        have hil : i < b.length := by rw [List.length_map] at h57; have := of_decide_eq_true h57; omega
        obtain ⟨x, hs⟩ : ∃ q, b[i]? = some q := ⟨_, List.getElem?_eq_getElem hil⟩
        refine qR rfl <| qM rfl rfl rfl <| qM rfl rfl rfl <| qO rfl <| op_indexAddr rfl Tryz.underlying40 sz5 (by decide) rfl rfl rfl (get_map hs) ?_
        refine qO rfl <| op_load_sptr rfl rfl ta5 rfl <| qO rfl <| op_rem rfl rfl rfl (by decide) (rem_nat x 5) ?_
        refine qO rfl <| op_convInt rfl Tryz.underlying5 Tryz.underlying22 rfl (u64_nat (show x % 5 < _ by omega)) ?_
        refine qA rfl rfl rfl <| qN ?_
        exact ⟨rfl, rfl, (.keep rfl (.keep rfl (.keep rfl (.keep rfl (.keep rfl (.keep rfl (.keep rfl (.keep rfl (.eq rfl (by first | rw [nth_yes hs] | (rw [nth_no hil]; rfl)) (.nil))))))))))⟩
       ·
        have hil : ¬ i < b.length := by rw [List.length_map] at h57; have := of_decide_eq_false h57; omega
        refine mwp_skip ?_
        exact ⟨rfl, rfl, (.keep rfl (.keep rfl (.keep rfl (.keep rfl (.keep rfl (.keep rfl (.keep rfl (.keep rfl (.eq rfl (by first | rw [nth_yes hs] | (rw [nth_no hil]; rfl)) (.nil))))))))))⟩
      ·
       refine mwp_draw [3, 7, 13, 14, 15, 16] [_, S ++ [.cells (rawM (S.length + 3) (S.length + 4) (keysM (nthM a) i) (valsM (nthM a) i)).cells, .cells (rawM (S.length + 5) (S.length + 6) (keysM (nthM b) i) (valsM (nthM b) i)).cells, .cells (rawM (S.length + 7) (S.length + 8) (keysM (fun j => max (nthM a j) (nthM b j)) i) (valsM (fun j => max (nthM a j) (nthM b j)) i)).cells, .row 9 1 (keysM (nthM a) (i + 1)).length, .row 28 5 (valsM (nthM a) (i + 1)).length, .row 9 1 (keysM (nthM b) i).length, .row 28 5 (valsM (nthM b) i).length, .row 9 1 (keysM (fun j => max (nthM a j) (nthM b j)) i).length, .row 28 5 (valsM (fun j => max (nthM a j) (nthM b j)) i).length], S ++ [.cells (rawM (S.length + 3) (S.length + 4) (keysM (nthM a) i) (valsM (nthM a) i)).cells, .cells (rawM (S.length + 5) (S.length + 6) (keysM (nthM b) i) (valsM (nthM b) i)).cells, .cells (rawM (S.length + 7) (S.length + 8) (keysM (fun j => max (nthM a j) (nthM b j)) i) (valsM (fun j => max (nthM a j) (nthM b j)) i)).cells, .row 9 1 (keysM (nthM a) (i + 1)).length, .row 28 5 (valsM (nthM a) (i + 1)).length, .row 9 1 (keysM (nthM b) (i + 1)).length, .row 28 5 (valsM (nthM b) (i + 1)).length, .row 9 1 (keysM (fun j => max (nthM a j) (nthM b j)) i).length, .row 28 5 (valsM (fun j => max (nthM a j) (nthM b j)) i).length], S ++ [.cells (rawM (S.length + 3) (S.length + 4) (keysM (nthM a) i) (valsM (nthM a) i)).cells, .cells (rawM (S.length + 5) (S.length + 6) (keysM (nthM b) i) (valsM (nthM b) i)).cells, .cells (rawM (S.length + 7) (S.length + 8) (keysM (fun j => max (nthM a j) (nthM b j)) i) (valsM (fun j => max (nthM a j) (nthM b j)) i)).cells, .row 9 1 (keysM (nthM a) (i + 1)).length, .row 28 5 (valsM (nthM a) (i + 1)).length, .row 9 1 (keysM (nthM b) (i + 1)).length, .row 28 5 (valsM (nthM b) (i + 1)).length, .row 9 1 (keysM (fun j => max (nthM a j) (nthM b j)) (i + 1)).length, .row 28 5 (valsM (fun j => max (nthM a j) (nthM b j)) (i + 1)).length], S ++ [.cells (rawM (S.length + 3) (S.length + 4) (keysM (nthM a) (i + 1)) (valsM (nthM a) (i + 1))).cells, .cells (rawM (S.length + 5) (S.length + 6) (keysM (nthM b) i) (valsM (nthM b) i)).cells, .cells (rawM (S.length + 7) (S.length + 8) (keysM (fun j => max (nthM a j) (nthM b j)) i) (valsM (fun j => max (nthM a j) (nthM b j)) i)).cells, .row 9 1 (keysM (nthM a) (i + 1)).length, .row 28 5 (valsM (nthM a) (i + 1)).length, .row 9 1 (keysM (nthM b) (i + 1)).length, .row 28 5 (valsM (nthM b) (i + 1)).length, .row 9 1 (keysM (fun j => max (nthM a j) (nthM b j)) (i + 1)).length, .row 28 5 (valsM (fun j => max (nthM a j) (nthM b j)) (i + 1)).length], S ++ [.cells (rawM (S.length + 3) (S.length + 4) (keysM (nthM a) (i + 1)) (valsM (nthM a) (i + 1))).cells, .cells (rawM (S.length + 5) (S.length + 6) (keysM (nthM b) (i + 1)) (valsM (nthM b) (i + 1))).cells, .cells (rawM (S.length + 7) (S.length + 8) (keysM (fun j => max (nthM a j) (nthM b j)) i) (valsM (fun j => max (nthM a j) (nthM b j)) i)).cells, .row 9 1 (keysM (nthM a) (i + 1)).length, .row 28 5 (valsM (nthM a) (i + 1)).length, .row 9 1 (keysM (nthM b) (i + 1)).length, .row 28 5 (valsM (nthM b) (i + 1)).length, .row 9 1 (keysM (fun j => max (nthM a j) (nthM b j)) (i + 1)).length, .row 28 5 (valsM (fun j => max (nthM a j) (nthM b j)) (i + 1)).length], S ++ [.cells (rawM (S.length + 3) (S.length + 4) (keysM (nthM a) (i + 1)) (valsM (nthM a) (i + 1))).cells, .cells (rawM (S.length + 5) (S.length + 6) (keysM (nthM b) (i + 1)) (valsM (nthM b) (i + 1))).cells, .cells (rawM (S.length + 7) (S.length + 8) (keysM (fun j => max (nthM a j) (nthM b j)) (i + 1)) (valsM (fun j => max (nthM a j) (nthM b j)) (i + 1))).cells, .row 9 1 (keysM (nthM a) (i + 1)).length, .row 28 5 (valsM (nthM a) (i + 1)).length, .row 9 1 (keysM (nthM b) (i + 1)).length, .row 28 5 (valsM (nthM b) (i + 1)).length, .row 9 1 (keysM (fun j => max (nthM a j) (nthM b j)) (i + 1)).length, .row 28 5 (valsM (fun j => max (nthM a j) (nthM b j)) (i + 1)).length]] mo (by decide) rfl rfl rfl rfl ?_
       refine dO rfl rfl rfl (op_load' rfl rfl rfl ta28 rfl ⟨rfl, rfl⟩) <| dO rfl rfl rfl (op_move rfl rfl ⟨rfl, rfl⟩) <| dO rfl rfl rfl (op_move rfl rfl ⟨rfl, rfl⟩) ?_
       refine dOps_eff rfl rfl rfl rfl (op_call rfl rfl rfl co17 ((mapWith_spec (S.length + 3) (S.length + 4) (by omega) (keysM (nthM a) i) (valsM (nthM a) i) (keyM i) (by omega) (by omega) _ (by rw [getElem?_own]; rfl) (by rw [getElem?_own]; rfl) (nthM a i)).mono fun _ _ h => ⟨h.1.trans (by rw [← keys_succ (nthM a) i, ← vals_succ (nthM a) i]), h.2.trans (by rw [← keys_succ (nthM a) i, ← vals_succ (nthM a) i, set_own, set_own]; rfl)⟩)) ?_
       refine dOps_op rfl rfl (.cons (op_load' rfl rfl rfl ta28 rfl ⟨rfl, rfl⟩) (.cons (op_load' rfl rfl rfl ta28 rfl ⟨rfl, rfl⟩) (.nil))) <| dOps_op rfl rfl (.cons (op_move rfl rfl ⟨rfl, rfl⟩) (.cons (op_move rfl rfl ⟨rfl, rfl⟩) (.nil))) <| dOps_op rfl rfl (.cons (op_move rfl rfl ⟨rfl, rfl⟩) (.cons (op_move rfl rfl ⟨rfl, rfl⟩) (.nil))) ?_
       refine dOps_eff rfl rfl rfl rfl (op_call rfl rfl rfl co17 ((mapWith_spec (S.length + 5) (S.length + 6) (by omega) (keysM (nthM b) i) (valsM (nthM b) i) (keyM i) (by omega) (by omega) _ (by rw [getElem?_own]; rfl) (by rw [getElem?_own]; rfl) (nthM b i)).mono fun _ _ h => ⟨h.1.trans (by rw [← keys_succ (nthM b) i, ← vals_succ (nthM b) i]), h.2.trans (by rw [← keys_succ (nthM b) i, ← vals_succ (nthM b) i, set_own, set_own]; rfl)⟩)) ?_
       refine dOps_op rfl rfl (.cons (op_load' rfl rfl rfl ta28 rfl ⟨rfl, rfl⟩) (.cons (op_load' rfl rfl rfl ta28 rfl ⟨rfl, rfl⟩) (.cons (op_load' rfl rfl rfl ta28 rfl ⟨rfl, rfl⟩) (.nil)))) <| dOps_op rfl rfl (.cons (op_move rfl rfl ⟨rfl, rfl⟩) (.cons (op_move rfl rfl ⟨rfl, rfl⟩) (.cons (op_move rfl rfl ⟨rfl, rfl⟩) (.nil)))) <| dOps_op rfl rfl (.cons (op_move rfl rfl ⟨rfl, rfl⟩) (.cons (op_move rfl rfl ⟨rfl, rfl⟩) (.cons (op_move rfl rfl ⟨rfl, rfl⟩) (.cons (op_move rfl rfl ⟨rfl, rfl⟩) (.cons (op_move rfl rfl ⟨rfl, rfl⟩) (.cons (op_move rfl rfl ⟨rfl, rfl⟩) (.nil))))))) <| dOps_op rfl rfl (.cons (op_move rfl rfl ⟨rfl, rfl⟩) (.cons (op_move rfl rfl ⟨rfl, rfl⟩) (.cons (op_move rfl rfl ⟨rfl, rfl⟩) (.cons (op_move rfl rfl ⟨rfl, rfl⟩) (.cons (op_move rfl rfl ⟨rfl, rfl⟩) (.cons (op_move rfl rfl ⟨rfl, rfl⟩) (.nil))))))) <| dOps_op rfl rfl (.cons (op_max2' rfl rfl rfl (max_nat _ _) ⟨rfl, rfl⟩) (.cons (op_max2' rfl rfl rfl (max_nat _ _) ⟨rfl, rfl⟩) (.cons (op_max2' rfl rfl rfl (max_nat _ _) ⟨rfl, rfl⟩) (.nil)))) ?_
       refine dOps_eff rfl rfl rfl rfl (op_call rfl rfl rfl co17 ((mapWith_spec (S.length + 7) (S.length + 8) (by omega) (keysM (fun j => max (nthM a j) (nthM b j)) i) (valsM (fun j => max (nthM a j) (nthM b j)) i) (keyM i) (by omega) (by omega) _ (by rw [getElem?_own]; rfl) (by rw [getElem?_own]; rfl) (max (nthM a i) (nthM b i))).mono fun _ _ h => ⟨h.1.trans (by rw [← keys_succ (fun j => max (nthM a j) (nthM b j)) i, ← vals_succ (fun j => max (nthM a j) (nthM b j)) i]), h.2.trans (by rw [← keys_succ (fun j => max (nthM a j) (nthM b j)) i, ← vals_succ (fun j => max (nthM a j) (nthM b j)) i, set_own, set_own]; rfl)⟩)) ?_
       refine dOps_eff rfl rfl rfl rfl (op_store' rfl rfl rfl rfl sz28 rfl rfl (Nat.le_of_ble_eq_true rfl) rfl ⟨rfl, rfl⟩) <| dOps_eff rfl rfl rfl rfl (op_store' rfl rfl rfl rfl sz28 rfl rfl (Nat.le_of_ble_eq_true rfl) rfl ⟨rfl, rfl⟩) <| dOps_eff rfl rfl rfl rfl (op_store' rfl rfl rfl rfl sz28 rfl rfl (Nat.le_of_ble_eq_true rfl) rfl ⟨rfl, rfl⟩) <| dOps_nil <| qR rfl <| qM rfl rfl rfl <| qO rfl <| op_arith rfl rfl rfl rfl <| qA rfl rfl rfl <| qN ?_
       refine ⟨i + 1, by omega, by omega, rfl, (.keep rfl (.keep rfl (.keep rfl (.keep rfl (.keep rfl (.nil)))))), (.eq rfl (int_succ (show i < max a.length b.length by omega) (by simp only [maxLen]; omega)) (.nil))⟩
    ·
     have hib : ¬ i < b.length := by rw [List.length_map] at h36; have := of_decide_eq_false h36; omega
     have hge : i = max a.length b.length := by omega
     subst hge
     refine mwp_exit <| mwp_seq ?_
     refine mwp_draw [9, 10] [_, S ++ [.cells (rawM (S.length + 3) (S.length + 4) (keysM (nthM a) (max a.length b.length)) (valsM (nthM a) (max a.length b.length))).cells, .cells (rawM (S.length + 5) (S.length + 6) (keysM (nthM b) (max a.length b.length)) (valsM (nthM b) (max a.length b.length))).cells, .cells (rawM (S.length + 7) (S.length + 8) (keysM (fun j => max (nthM a j) (nthM b j)) (max a.length b.length)) (valsM (fun j => max (nthM a j) (nthM b j)) (max a.length b.length))).cells, .row 9 1 (keysM (nthM a) (max a.length b.length)).length, .row 28 5 (valsM (nthM a) (max a.length b.length)).length, .row 9 1 (keysM (nthM b) (max a.length b.length)).length, .row 28 5 (valsM (nthM b) (max a.length b.length)).length, .row 9 1 (keysM (fun j => max (nthM a j) (nthM b j)) (max a.length b.length)).length, .row 28 5 (valsM (fun j => max (nthM a j) (nthM b j)) (max a.length b.length)).length, .cells [.int .u64 0, .int .u64 0, .lst0, .lst0, .lst0]], S ++ [.cells (rawM (S.length + 3) (S.length + 4) (keysM (nthM a) (max a.length b.length)) (valsM (nthM a) (max a.length b.length))).cells, .cells (rawM (S.length + 5) (S.length + 6) (keysM (nthM b) (max a.length b.length)) (valsM (nthM b) (max a.length b.length))).cells, .cells (rawM (S.length + 7) (S.length + 8) (keysM (fun j => max (nthM a j) (nthM b j)) (max a.length b.length)) (valsM (fun j => max (nthM a j) (nthM b j)) (max a.length b.length))).cells, .row 9 1 (keysM (nthM a) (max a.length b.length)).length, .row 28 5 (valsM (nthM a) (max a.length b.length)).length, .row 9 1 (keysM (nthM b) (max a.length b.length)).length, .row 28 5 (valsM (nthM b) (max a.length b.length)).length, .row 9 1 (keysM (fun j => max (nthM a j) (nthM b j)) (max a.length b.length)).length, .row 28 5 (valsM (fun j => max (nthM a j) (nthM b j)) (max a.length b.length)).length, .cells (encV (mapM_ (fun j => max (nthM a j) (nthM b j)) (max a.length b.length))).cells]] mo (by decide) rfl rfl rfl rfl ?_
     refine dOps_op rfl rfl (.cons (op_call rfl rfl rfl co12 ((lawOf_spec 1 [] _).sub (.cons (.refl _) (.cons (.nil 2) .nil)))) (.cons (op_call rfl rfl rfl co12 ((lawOf_spec 1 [] _).sub (.cons (.refl _) (.cons (.nil 2) .nil)))) (.nil))) <| dOps_op rfl rfl (.cons (op_buildSlice rfl Tryz.underlying33 el35 rfl rfl (by decide) (by decide) rfl rfl ⟨rfl, rfl⟩) (.cons (op_buildSlice rfl Tryz.underlying33 el35 rfl rfl (by decide) (by decide) rfl rfl ⟨rfl, rfl⟩) (.nil))) ?_
     refine dOps_op rfl rfl (.cons (op_call rfl rfl rfl co12 (lawOf_spec 4 [.mk 1 []] _)) (.cons (op_call rfl rfl rfl co12 (lawOf_spec 4 [.mk 1 []] _)) (.nil))) <| dOps_op rfl rfl (.cons (op_viewTo (y := encV (mapM_ (nthM a) (max a.length b.length))) (op_load' rfl rfl rfl ta28 rfl ⟨rfl, rfl⟩) (.agg (.cons (.refl _) (.cons (.refl _) (.cons (.view _ _ _) (.cons (.nil 1) (.cons (.view _ _ _) .nil)))))) ⟨rfl, rfl⟩) (.cons (op_viewTo (y := encV (mapM_ (nthM a) (max a.length b.length))) (op_load' rfl rfl rfl ta28 rfl ⟨rfl, rfl⟩) (.agg (.cons (.refl _) (.cons (.refl _) (.cons (.view _ _ _) (.cons (.nil 1) (.cons (.view _ _ _) .nil)))))) ⟨rfl, rfl⟩) (.nil))) <| dOps_op rfl rfl (.cons (op_viewTo (y := encV (mapM_ (nthM b) (max a.length b.length))) (op_load' rfl rfl rfl ta28 rfl ⟨rfl, rfl⟩) (.agg (.cons (.refl _) (.cons (.refl _) (.cons (.view _ _ _) (.cons (.nil 1) (.cons (.view _ _ _) .nil)))))) ⟨rfl, rfl⟩) (.cons (op_viewTo (y := encV (mapM_ (nthM b) (max a.length b.length))) (op_load' rfl rfl rfl ta28 rfl ⟨rfl, rfl⟩) (.agg (.cons (.refl _) (.cons (.refl _) (.cons (.view _ _ _) (.cons (.nil 1) (.cons (.view _ _ _) .nil)))))) ⟨rfl, rfl⟩) (.nil))) ?_
     refine dOps_op rfl rfl (.cons (op_call rfl rfl rfl co11 (join_at (okV_mapM (f := nthM a) (fun j => by unfold nthM; omega) (max a.length b.length)) (okV_mapM (f := nthM b) (fun j => by unfold nthM; omega) (max a.length b.length)) (join_ok_of (by decide) (is_mapM (by omega)) (is_mapM (by omega)) (both_mapM (by omega))) _)) (.cons (op_call rfl rfl rfl co11 (join_at (okV_mapM (f := nthM a) (fun j => by unfold nthM; omega) (max a.length b.length)) (okV_mapM (f := nthM b) (fun j => by unfold nthM; omega) (max a.length b.length)) (join_ok_of (by decide) (is_mapM (by omega)) (is_mapM (by omega)) (both_mapM (by omega))) _)) (.nil))) ?_
     refine dOps_op rfl rfl (.cons (op_move rfl rfl ⟨rfl, rfl⟩) (.cons (op_move rfl rfl ⟨rfl, rfl⟩) (.nil))) <| dOps_op rfl rfl (.cons (op_extract rfl rfl rfl ⟨rfl, rfl⟩) (.cons (op_extract rfl rfl rfl ⟨rfl, rfl⟩) (.nil))) <| dOps_op rfl rfl (.cons (op_extract rfl rfl rfl ⟨rfl, rfl⟩) (.cons (op_extract rfl rfl rfl ⟨rfl, rfl⟩) (.cons (op_extract rfl rfl rfl ⟨rfl, rfl⟩) (.nil)))) <| dOps_eff rfl rfl rfl rfl (op_alloc' rfl zm28 rfl rfl ⟨rfl, rfl⟩) <| dOps_eff rfl rfl rfl rfl (op_store' rfl rfl rfl rfl sz28 rfl rfl (Nat.le_of_ble_eq_true rfl) rfl ⟨rfl, rfl⟩) <| dO rfl rfl rfl (op_assign rfl rfl ⟨rfl, rfl⟩) <| dOps_nil <| mwp_seq <| qR rfl <| qM rfl rfl rfl <| qO rfl <| op_if0 rfl Tryz.underlying30 rfl rfl (.inl ⟨rfl, rfl⟩) <| qM rfl rfl rfl <| qL rfl rfl rfl rfl ta28 rfl <| qO rfl <| op_viewTo (y := encV (mapM_ (fun j => max (nthM a j) (nthM b j)) (max a.length b.length))) (op_load' rfl rfl rfl ta28 rfl ⟨rfl, rfl⟩) (.agg (.cons (.refl _) (.cons (.refl _) (.cons (.view _ _ _) (.cons (.nil 1) (.cons (.view _ _ _) .nil)))))) ?_
     refine wOps_op rfl (op_call rfl rfl rfl co15 ((rSame_spec (mapM_ (fun j => max (nthM a j) (nthM b j)) (max a.length b.length)) (mapM_ (fun j => max (nthM a j) (nthM b j)) (max a.length b.length)) _).mono ?_))
     rintro _ _ ⟨rfl, rfl⟩
     rw [decide_eq_true rfl]
     refine qP rfl rfl rfl rfl <| qA rfl rfl rfl <| qN <| mwp_ret ?_
     exact ret_tmp (.inr rfl) Tryz.results5 rfl (.of_eq (rfl)) (.bool _) ⟨rfl, rfl⟩
end Go.Proofs.YtihpnfpdocnniaaGreat
end
