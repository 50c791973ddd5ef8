/-
  Texts on which the proof of OrderClocks leans: part 5.
-/
import Derived.Test.YtlooahbfpmigfaaGreatOrderClocksD
import Derived.WalkKit
import Derived.LaidEql
import Derived.RowKitTokens
import Derived.Laws.MakeOwn
import Derived.Deep.Slices
import Derived.ChangeSame
import Derived.ProofKit
import Derived.OpenShut
import Derived.ChangeOld
import Derived.SizedLaws
import Derived.Carry
section
set_option linter.unusedVariables false
set_option linter.unusedSimpArgs false
set_option maxRecDepth 20000
set_option maxHeartbeats 400000
namespace Go.Proofs.YtlooahbfpmigfaaGreat
open Go Go.MV
theorem max_if (a b : Int) : (if b > a then b else a) = max a b := by split <;> omega
theorem isV3 {ins : List Sch} {n m : Int} {s : List Bs} {c : List (List Tk)} {w : List Val} (h : isVF (.mk 3 ins) (.mk n m s c w) = true) : s.length ≤ 40 := by
 rw [isVF_mk 3] at h; simp [isRowF] at h; omega
theorem isV4 {t : Sch} {n m : Int} {s : List Bs} {c : List (List Tk)} {w : List Val} (h : isVF (.mk 4 [t]) (.mk n m s c w) = true) : s.length ≤ 40 ∧ s.length = w.length ∧ ∀ x ∈ w, isVF t x = true := by
 rw [isVF_mk 4] at h
 simp only [Int.reduceEq, if_false, if_true, isVL, List.headD_cons, Bool.and_eq_true, decide_eq_true_eq, List.all_eq_true, isRowF] at h
 exact ⟨h.2.1.1.1.1, h.2.1.2, fun x hx => (h.2.2 x hx).1⟩
theorem isV5 {t u : Sch} {n m : Int} {s : List Bs} {c : List (List Tk)} {w : List Val} (h : isVF (.mk 5 [t, u]) (.mk n m s c w) = true) : ∃ x y, w = [x, y] ∧ isVF t x = true ∧ isVF u y = true := by
 rw [isVF_mk 5] at h
 match w, h with
 | [], h => simp at h
 | [_], h => simp at h
 | [x, y], h => exact ⟨x, y, rfl, by simp [isVL] at h; exact h.2⟩
 | _ :: _ :: _ :: _, h => simp at h
theorem isV7 {ins : List Sch} {n m : Int} {s : List Bs} {c : List (List Tk)} {w : List Val} (h : isVF (.mk 7 ins) (.mk n m s c w) = true) : ∀ x ∈ c, x.length ≤ 40 := by
 rw [isVF_mk 7] at h
 match c, h with
 | [], _ => simp
 | [x], h => simp [isClockF] at h; simp; omega
 | _ :: _ :: _, h => simp at h
theorem isV8 {t : Sch} {n m : Int} {s : List Bs} {c : List (List Tk)} {w : List Val} (h : isVF (.mk 8 [t]) (.mk n m s c w) = true) : c.length ≤ 40 ∧ c.length = w.length ∧ (∀ x ∈ c, x.length ≤ 40) ∧ ∀ x ∈ w, isVF t x = true := by
 rw [isVF_mk 8] at h
 simp only [Int.reduceEq, if_false, isVL, List.headD_cons, Bool.and_eq_true, decide_eq_true_eq, List.all_eq_true, isCauseF, isClockF] at h
 refine ⟨h.1.2, h.2.1.1, fun x hx => ?_, fun x hx => h.2.2 x hx⟩
 have := h.2.1.2.1 x hx
 omega
theorem both_spec (d : Nat) : ∀ (t : Sch), isF d t = true → ∀ (a b : Val), isVF t a = true → isVF t b = true → ∀ S : MS, MCalls Tryz.prog 68 [encS t, encV a, encV b] S fun v σ' => v = encO (bothF t a b) ∧ σ' = S := by
 induction d with
 | zero => intro s h; simp [isF] at h
 | succ d ih =>
 rintro ⟨k, ins⟩ hd ⟨n1, m1, s1, c1, w1⟩ ⟨n2, m2, s2, c2, w2⟩ ha hb S
 rw [isF] at hd
 simp only [Bool.and_eq_true, List.all_eq_true, beq_iff_eq] at hd
 rcases k8_of hd.1 with rfl | rfl | rfl | rfl | rfl | rfl | rfl | rfl
 ·
  have hB : bothB 1 (bothL ins) (.mk n1 m1 s1 c1 w1) (.mk n2 m2 s2 c2 w2) = some (.mk (max n1 n2) 0 [] [] []) := rfl
  refine mcalls_body Tryz.func68 rfl Tryz.ntmps68 (Nat.le_of_ble_eq_true rfl) ?_
  refine mwp_seq <| qR rfl <| qB rfl rfl rfl rfl rfl <| qB rfl rfl rfl rfl rfl <| qB rfl rfl rfl rfl rfl <| qO rfl <| op_alloc' rfl zm29 rfl rfl <| qA rfl rfl rfl <| qN <| mwp_seq <| mwp_seq <| qR rfl <| qF rfl rfl rfl fo37_0 <| qL rfl rfl rfl rfl ta3 rfl <| qN <| mwp_block <| mwp_seq <| mwp_seq <| qR rfl <| qC rfl rfl rfl rfl rfl <| qA rfl rfl rfl <| qN ?_
  refine mwp_cond_t rfl (rfl) <| mwp_skip <| mwp_cond_t rfl (rfl) <| qR rfl <| qF rfl rfl rfl fo29_0 <| qL rfl rfl rfl rfl ta24 rfl <| qF rfl rfl rfl fo29_0 <| qL rfl rfl rfl rfl ta24 rfl <| qO rfl <| op_max2' rfl rfl rfl (max_if n1 n2) <| qF rfl rfl rfl fo29_0 <| qO rfl <| op_store' rfl rfl rfl rfl sz24 rfl rfl (Nat.le_of_ble_eq_true rfl) rfl <| qN <| mwp_seq <| mwp_seq <| qR rfl <| qM rfl rfl rfl <| qO rfl <| op_if0 rfl Tryz.underlying32 rfl rfl (.inl ⟨rfl, rfl⟩) <| qM rfl rfl rfl <| qO rfl <| op_viewTo (y := encV (.mk (max n1 n2) 0 [] [] [])) (op_load' rfl rfl rfl ta29 rfl ⟨rfl, rfl⟩) (.agg (.cons (.refl _) (.cons (.refl _) (.cons (.nil 1) (.cons (.nil 1) (.cons (.nil 5) .nil)))))) ?_
  refine wOps_op rfl (op_call rfl rfl rfl co103 ((isLarge_spec (max n1 n2) 0 [] [] [] _).mono ?_))
  rintro _ _ ⟨rfl, rfl⟩
  refine qP rfl rfl rfl rfl <| qN ?_
  refine mwp_cond_split rfl (fun h69 => ?_) (fun h69 => ?_)
  ·
   refine qR rfl <| qO rfl <| op_makeInterface rfl rfl Tryz.underlying62 (by simp) ?_
   refine qA rfl rfl rfl <| qN <| mwp_seq <| mwp_seq <| qR rfl <| qM rfl rfl rfl <| qO rfl <| op_ifnil rfl Tryz.underlying32 rfl rfl (.inr ⟨rfl, rfl⟩) <| qN <| mwp_cond_t rfl (rfl) <| mwp_seq <| qR rfl <| qO rfl <| op_build rfl Tryz.underlying29 zm29 .nil (by kernel_rfl) ?_
   refine qM rfl rfl rfl <| qO rfl <| op_store' rfl rfl rfl rfl sz29 rfl rfl (Nat.le_of_ble_eq_true rfl) rfl <| qA rfl rfl rfl <| qN <| mwp_ret ?_
   exact ret_cell_tmp (.inr rfl) Tryz.results68 rfl rfl ta29 rfl (.agg (.cons (.refl _) (.cons (.refl _) (.cons (.nil 1) (.cons (.nil 1) (.cons (.nil 5) .nil)))))) (cl_encV _ (noV)) rfl (.refl _) (.iface _ _ (.int _ _)) ⟨by rw [bothF_mk, hB, cap_t h69]; rfl, rfl⟩
  ·
   refine mwp_skip <| mwp_seq <| mwp_seq <| qR rfl <| qM rfl rfl rfl <| qO rfl <| op_if0 rfl Tryz.underlying32 rfl rfl (.inr ⟨rfl, rfl⟩) <| qN <| mwp_cond_f rfl (rfl) <| mwp_skip <| mwp_seq <| qR rfl <| qO rfl <| op_viewTo (y := encV (.mk (max n1 n2) 0 [] [] [])) (op_load' rfl rfl rfl ta29 rfl ⟨rfl, rfl⟩) (.agg (.cons (.refl _) (.cons (.refl _) (.cons (.nil 1) (.cons (.nil 1) (.cons (.nil 5) .nil)))))) <| qO rfl <| op_store' rfl rfl rfl rfl sz29 rfl rfl (Nat.le_of_ble_eq_true rfl) rfl <| qA rfl rfl rfl <| qN <| mwp_ret ?_
   exact ret_cell_tmp (.inr rfl) Tryz.results68 rfl rfl ta29 rfl (.refl _) (cl_encV _ (.mk (max n1 n2) 0 [] [] [])) rfl (.refl _) (.iface0) ⟨by rw [bothF_mk, hB, cap_f h69]; rfl, rfl⟩
 ·
  have hB : bothB 2 (bothL ins) (.mk n1 m1 s1 c1 w1) (.mk n2 m2 s2 c2 w2) = some (.mk (max n1 n2) 0 [] [] []) := rfl
  refine mcalls_body Tryz.func68 rfl Tryz.ntmps68 (Nat.le_of_ble_eq_true rfl) ?_
  refine mwp_seq <| qR rfl <| qB rfl rfl rfl rfl rfl <| qB rfl rfl rfl rfl rfl <| qB rfl rfl rfl rfl rfl <| qO rfl <| op_alloc' rfl zm29 rfl rfl <| qA rfl rfl rfl <| qN <| mwp_seq <| mwp_seq <| qR rfl <| qF rfl rfl rfl fo37_0 <| qL rfl rfl rfl rfl ta3 rfl <| qN <| mwp_block <| mwp_seq <| mwp_seq <| qR rfl <| qC rfl rfl rfl rfl rfl <| qA rfl rfl rfl <| qN ?_
  refine mwp_cond_f rfl (rfl) <| qR rfl <| qC rfl rfl rfl rfl rfl <| qA rfl rfl rfl <| qN <| mwp_cond_t rfl (rfl) <| qR rfl <| qF rfl rfl rfl fo29_0 <| qL rfl rfl rfl rfl ta24 rfl <| qF rfl rfl rfl fo29_0 <| qL rfl rfl rfl rfl ta24 rfl <| qO rfl <| op_max2' rfl rfl rfl (max_if n1 n2) <| qF rfl rfl rfl fo29_0 <| qO rfl <| op_store' rfl rfl rfl rfl sz24 rfl rfl (Nat.le_of_ble_eq_true rfl) rfl <| qN <| mwp_seq <| mwp_seq <| qR rfl <| qM rfl rfl rfl <| qO rfl <| op_if0 rfl Tryz.underlying32 rfl rfl (.inl ⟨rfl, rfl⟩) ?_
  refine qM rfl rfl rfl <| qO rfl <| op_viewTo (y := encV (.mk (max n1 n2) 0 [] [] [])) (op_load' rfl rfl rfl ta29 rfl ⟨rfl, rfl⟩) (.agg (.cons (.refl _) (.cons (.refl _) (.cons (.nil 1) (.cons (.nil 1) (.cons (.nil 5) .nil)))))) ?_
  refine wOps_op rfl (op_call rfl rfl rfl co103 ((isLarge_spec (max n1 n2) 0 [] [] [] _).mono ?_))
  rintro _ _ ⟨rfl, rfl⟩
  refine qP rfl rfl rfl rfl <| qN ?_
  refine mwp_cond_split rfl (fun h69 => ?_) (fun h69 => ?_)
  ·
   refine qR rfl <| qO rfl <| op_makeInterface rfl rfl Tryz.underlying62 (by simp) ?_
   refine qA rfl rfl rfl <| qN <| mwp_seq <| mwp_seq <| qR rfl <| qM rfl rfl rfl <| qO rfl <| op_ifnil rfl Tryz.underlying32 rfl rfl (.inr ⟨rfl, rfl⟩) <| qN <| mwp_cond_t rfl (rfl) <| mwp_seq <| qR rfl <| qO rfl <| op_build rfl Tryz.underlying29 zm29 .nil (by kernel_rfl) ?_
   refine qM rfl rfl rfl <| qO rfl <| op_store' rfl rfl rfl rfl sz29 rfl rfl (Nat.le_of_ble_eq_true rfl) rfl <| qA rfl rfl rfl <| qN <| mwp_ret ?_
   exact ret_cell_tmp (.inr rfl) Tryz.results68 rfl rfl ta29 rfl (.agg (.cons (.refl _) (.cons (.refl _) (.cons (.nil 1) (.cons (.nil 1) (.cons (.nil 5) .nil)))))) (cl_encV _ (noV)) rfl (.refl _) (.iface _ _ (.int _ _)) ⟨by rw [bothF_mk, hB, cap_t h69]; rfl, rfl⟩
  ·
   refine mwp_skip <| mwp_seq <| mwp_seq <| qR rfl <| qM rfl rfl rfl <| qO rfl <| op_if0 rfl Tryz.underlying32 rfl rfl (.inr ⟨rfl, rfl⟩) <| qN <| mwp_cond_f rfl (rfl) <| mwp_skip <| mwp_seq <| qR rfl <| qO rfl <| op_viewTo (y := encV (.mk (max n1 n2) 0 [] [] [])) (op_load' rfl rfl rfl ta29 rfl ⟨rfl, rfl⟩) (.agg (.cons (.refl _) (.cons (.refl _) (.cons (.nil 1) (.cons (.nil 1) (.cons (.nil 5) .nil)))))) <| qO rfl <| op_store' rfl rfl rfl rfl sz29 rfl rfl (Nat.le_of_ble_eq_true rfl) rfl <| qA rfl rfl rfl <| qN <| mwp_ret ?_
   exact ret_cell_tmp (.inr rfl) Tryz.results68 rfl rfl ta29 rfl (.refl _) (cl_encV _ (.mk (max n1 n2) 0 [] [] [])) rfl (.refl _) (.iface0) ⟨by rw [bothF_mk, hB, cap_f h69]; rfl, rfl⟩
 ·
  have b1 := isV3 ha
  have b2 := isV3 hb
  have hB : bothB 3 (bothL ins) (.mk n1 m1 s1 c1 w1) (.mk n2 m2 s2 c2 w2) = some (.mk 0 0 (bothX s1 s2) [] []) := rfl
  refine mcalls_body Tryz.func68 rfl Tryz.ntmps68 (Nat.le_of_ble_eq_true rfl) ?_
  refine mwp_seq <| qR rfl <| qB rfl rfl rfl rfl rfl <| qB rfl rfl rfl rfl rfl <| qB rfl rfl rfl rfl rfl <| qO rfl <| op_alloc' rfl zm29 rfl rfl <| qA rfl rfl rfl <| qN <| mwp_seq <| mwp_seq <| qR rfl <| qF rfl rfl rfl fo37_0 <| qL rfl rfl rfl rfl ta3 rfl <| qN <| mwp_block <| mwp_seq <| mwp_seq <| qR rfl <| qC rfl rfl rfl rfl rfl <| qA rfl rfl rfl <| qN ?_
  refine mwp_cond_f rfl (rfl) <| qR rfl <| qC rfl rfl rfl rfl rfl <| qA rfl rfl rfl <| qN <| mwp_cond_f rfl (rfl) <| mwp_seq <| qR rfl <| qC rfl rfl rfl rfl rfl <| qA rfl rfl rfl <| qN <| mwp_cond_t rfl (rfl) <| qR rfl <| qF rfl rfl rfl fo29_2 <| qL rfl rfl rfl rfl ta25 rfl <| qF rfl rfl rfl fo29_2 <| qL rfl rfl rfl rfl ta25 rfl ?_
  refine wOps_op rfl (op_call rfl rfl rfl co97 ((rowsBoth_spec s1 s2 (by omega) _).mono ?_))
  rintro _ _ ⟨rfl, rfl⟩
  refine qF rfl rfl rfl fo29_2 <| qO rfl <| op_store' rfl rfl rfl rfl sz25 rfl rfl (Nat.le_of_ble_eq_true rfl) rfl <| qN <| mwp_seq <| mwp_seq <| qR rfl <| qM rfl rfl rfl <| qO rfl <| op_if0 rfl Tryz.underlying32 rfl rfl (.inl ⟨rfl, rfl⟩) <| qM rfl rfl rfl <| qO rfl <| op_viewTo (y := encV (.mk 0 0 (bothX s1 s2) [] [])) (op_load' rfl rfl rfl ta29 rfl ⟨rfl, rfl⟩) (.agg (.cons (.refl _) (.cons (.refl _) (.cons (.refl _) (.cons (.nil 1) (.cons (.nil 5) .nil)))))) ?_
  refine wOps_op rfl (op_call rfl rfl rfl co103 ((isLarge_spec 0 0 (bothX s1 s2) [] [] _).mono ?_))
  rintro _ _ ⟨rfl, rfl⟩
  refine qP rfl rfl rfl rfl <| qN ?_
  refine mwp_cond_split rfl (fun h69 => ?_) (fun h69 => ?_)
  ·
   refine qR rfl <| qO rfl <| op_makeInterface rfl rfl Tryz.underlying62 (by simp) ?_
   refine qA rfl rfl rfl <| qN <| mwp_seq <| mwp_seq <| qR rfl <| qM rfl rfl rfl <| qO rfl <| op_ifnil rfl Tryz.underlying32 rfl rfl (.inr ⟨rfl, rfl⟩) <| qN <| mwp_cond_t rfl (rfl) <| mwp_seq <| qR rfl <| qO rfl <| op_build rfl Tryz.underlying29 zm29 .nil (by kernel_rfl) ?_
   refine qM rfl rfl rfl <| qO rfl <| op_store' rfl rfl rfl rfl sz29 rfl rfl (Nat.le_of_ble_eq_true rfl) rfl <| qA rfl rfl rfl <| qN <| mwp_ret ?_
   exact ret_cell_tmp (.inr rfl) Tryz.results68 rfl rfl ta29 rfl (.agg (.cons (.refl _) (.cons (.refl _) (.cons (.nil 1) (.cons (.nil 1) (.cons (.nil 5) .nil)))))) (cl_encV _ (noV)) rfl (.refl _) (.iface _ _ (.int _ _)) ⟨by rw [bothF_mk, hB, cap_t h69]; rfl, rfl⟩
  ·
   refine mwp_skip <| mwp_seq <| mwp_seq <| qR rfl <| qM rfl rfl rfl <| qO rfl <| op_if0 rfl Tryz.underlying32 rfl rfl (.inr ⟨rfl, rfl⟩) <| qN <| mwp_cond_f rfl (rfl) <| mwp_skip <| mwp_seq <| qR rfl <| qO rfl <| op_viewTo (y := encV (.mk 0 0 (bothX s1 s2) [] [])) (op_load' rfl rfl rfl ta29 rfl ⟨rfl, rfl⟩) (.agg (.cons (.refl _) (.cons (.refl _) (.cons (.refl _) (.cons (.nil 1) (.cons (.nil 5) .nil)))))) <| qO rfl <| op_store' rfl rfl rfl rfl sz29 rfl rfl (Nat.le_of_ble_eq_true rfl) rfl <| qA rfl rfl rfl <| qN <| mwp_ret ?_
   exact ret_cell_tmp (.inr rfl) Tryz.results68 rfl rfl ta29 rfl (.refl _) (cl_encV _ (.mk 0 0 (bothX s1 s2) [] [])) rfl (.refl _) (.iface0) ⟨by rw [bothF_mk, hB, cap_f h69]; rfl, rfl⟩
 ·
  obtain ⟨⟨k1, i1⟩, rfl⟩ := one_ins hd.1 (by decide)
  have ih1 := ih (.mk k1 i1) (hd.2 _ (by simp))
  obtain ⟨p1, p2, p3⟩ := isV4 ha
  obtain ⟨q1, q2, q3⟩ := isV4 hb
  have hof := maps_spec 4 k1 i1 [] (bothF (.mk k1 i1)) n1 m1 s1 c1 w1 n2 m2 s2 c2 w2 p2 q2 p1 q1 (fun x hx y hy => ih1 x y (p3 x hx) (q3 y hy))
  have hBq : bothB 4 (bothL [.mk k1 i1]) (.mk n1 m1 s1 c1 w1) (.mk n2 m2 s2 c2 w2) = mapsF (bothF (.mk k1 i1)) (.mk n1 m1 s1 c1 w1) (.mk n2 m2 s2 c2 w2) := rfl
  rcases hO : mapsF (bothF (.mk k1 i1)) (.mk n1 m1 s1 c1 w1) (.mk n2 m2 s2 c2 w2) with _ | ⟨⟨n3, m3, s3, c3, w3⟩⟩ <;> rw [hO] at hof hBq
  ·
   refine mcalls_body Tryz.func68 rfl Tryz.ntmps68 (Nat.le_of_ble_eq_true rfl) ?_
   refine mwp_seq <| qR rfl <| qB rfl rfl rfl rfl rfl <| qB rfl rfl rfl rfl rfl <| qB rfl rfl rfl rfl rfl <| qO rfl <| op_alloc' rfl zm29 rfl rfl <| qA rfl rfl rfl <| qN <| mwp_seq <| mwp_seq <| qR rfl <| qF rfl rfl rfl fo37_0 <| qL rfl rfl rfl rfl ta3 rfl <| qN <| mwp_block <| mwp_seq <| mwp_seq <| qR rfl <| qC rfl rfl rfl rfl rfl <| qA rfl rfl rfl <| qN ?_
   refine mwp_cond_f rfl (rfl) <| qR rfl <| qC rfl rfl rfl rfl rfl <| qA rfl rfl rfl <| qN <| mwp_cond_f rfl (rfl) <| mwp_seq <| qR rfl <| qC rfl rfl rfl rfl rfl <| qA rfl rfl rfl <| qN <| mwp_cond_f rfl (rfl) <| mwp_seq <| qR rfl <| qC rfl rfl rfl rfl rfl <| qA rfl rfl rfl <| qN <| mwp_cond_t rfl (rfl) <| qR rfl <| qL rfl rfl rfl rfl ta37 rfl <| qL rfl rfl rfl rfl ta29 rfl <| qL rfl rfl rfl rfl ta29 rfl ?_
   refine wOps_op rfl (op_call rfl rfl rfl co98 ((hof _).mono ?_))
   rintro _ _ ⟨rfl, rfl⟩
   refine qM rfl rfl rfl <| qO rfl <| op_extract rfl rfl rfl <| qO rfl <| op_extract rfl rfl rfl <| qO rfl <| op_store' rfl rfl rfl rfl sz29 rfl rfl (Nat.le_of_ble_eq_true rfl) rfl <| qA rfl rfl rfl <| qN <| mwp_seq <| mwp_seq <| qR rfl <| qM rfl rfl rfl <| qO rfl <| op_ifnil rfl Tryz.underlying32 rfl rfl (.inl ⟨rfl, rfl⟩) <| qM rfl rfl rfl <| qS rfl <| qS rfl <| qP rfl rfl rfl rfl <| qN <| mwp_cond_f rfl (rfl) <| mwp_skip <| mwp_seq <| mwp_seq <| qR rfl ?_
   refine qM rfl rfl rfl <| qO rfl <| op_ifnil rfl Tryz.underlying32 rfl rfl (.inr ⟨rfl, rfl⟩) <| qN <| mwp_cond_t rfl (rfl) <| mwp_seq <| qR rfl <| qO rfl <| op_build rfl Tryz.underlying29 zm29 .nil (by kernel_rfl) ?_
   refine qM rfl rfl rfl <| qO rfl <| op_store' rfl rfl rfl rfl sz29 rfl rfl (Nat.le_of_ble_eq_true rfl) rfl <| qA rfl rfl rfl <| qN <| mwp_ret ?_
   exact ret_cell_tmp (.inr rfl) Tryz.results68 rfl rfl ta29 rfl (.agg (.cons (.refl _) (.cons (.refl _) (.cons (.nil 1) (.cons (.nil 1) (.cons (.nil 5) .nil)))))) (cl_encV _ (noV)) rfl (.refl _) (.iface _ _ (.int _ _)) ⟨by rw [bothF_mk, hBq]; rfl, rfl⟩
  ·
   refine mcalls_body Tryz.func68 rfl Tryz.ntmps68 (Nat.le_of_ble_eq_true rfl) ?_
   refine mwp_seq <| qR rfl <| qB rfl rfl rfl rfl rfl <| qB rfl rfl rfl rfl rfl <| qB rfl rfl rfl rfl rfl <| qO rfl <| op_alloc' rfl zm29 rfl rfl <| qA rfl rfl rfl <| qN <| mwp_seq <| mwp_seq <| qR rfl <| qF rfl rfl rfl fo37_0 <| qL rfl rfl rfl rfl ta3 rfl <| qN <| mwp_block <| mwp_seq <| mwp_seq <| qR rfl <| qC rfl rfl rfl rfl rfl <| qA rfl rfl rfl <| qN ?_
   refine mwp_cond_f rfl (rfl) <| qR rfl <| qC rfl rfl rfl rfl rfl <| qA rfl rfl rfl <| qN <| mwp_cond_f rfl (rfl) <| mwp_seq <| qR rfl <| qC rfl rfl rfl rfl rfl <| qA rfl rfl rfl <| qN <| mwp_cond_f rfl (rfl) <| mwp_seq <| qR rfl <| qC rfl rfl rfl rfl rfl <| qA rfl rfl rfl <| qN <| mwp_cond_t rfl (rfl) <| qR rfl <| qL rfl rfl rfl rfl ta37 rfl <| qL rfl rfl rfl rfl ta29 rfl <| qL rfl rfl rfl rfl ta29 rfl ?_
   refine wOps_op rfl (op_call rfl rfl rfl co98 ((hof _).mono ?_))
   rintro _ _ ⟨rfl, rfl⟩
   refine qM rfl rfl rfl <| qO rfl <| op_extract rfl rfl rfl <| qO rfl <| op_extract rfl rfl rfl <| qO rfl <| op_store' rfl rfl rfl rfl sz29 rfl rfl (Nat.le_of_ble_eq_true rfl) rfl <| qA rfl rfl rfl <| qN <| mwp_seq <| mwp_seq <| qR rfl <| qM rfl rfl rfl <| qO rfl <| op_if0 rfl Tryz.underlying32 rfl rfl (.inl ⟨rfl, rfl⟩) <| qM rfl rfl rfl <| qL rfl rfl rfl rfl ta29 rfl ?_
   refine wOps_op rfl (op_call rfl rfl rfl co103 ((isLarge_spec n3 m3 s3 c3 w3 _).mono ?_))
   rintro _ _ ⟨rfl, rfl⟩
   refine qP rfl rfl rfl rfl <| qN ?_
   refine mwp_cond_split rfl (fun h69 => ?_) (fun h69 => ?_)
   ·
    refine qR rfl <| qO rfl <| op_makeInterface rfl rfl Tryz.underlying62 (by simp) ?_
    refine qA rfl rfl rfl <| qN <| mwp_seq <| mwp_seq <| qR rfl <| qM rfl rfl rfl <| qO rfl <| op_ifnil rfl Tryz.underlying32 rfl rfl (.inr ⟨rfl, rfl⟩) <| qN <| mwp_cond_t rfl (rfl) <| mwp_seq <| qR rfl <| qO rfl <| op_build rfl Tryz.underlying29 zm29 .nil (by kernel_rfl) ?_
    refine qM rfl rfl rfl <| qO rfl <| op_store' rfl rfl rfl rfl sz29 rfl rfl (Nat.le_of_ble_eq_true rfl) rfl <| qA rfl rfl rfl <| qN <| mwp_ret ?_
    exact ret_cell_tmp (.inr rfl) Tryz.results68 rfl rfl ta29 rfl (.agg (.cons (.refl _) (.cons (.refl _) (.cons (.nil 1) (.cons (.nil 1) (.cons (.nil 5) .nil)))))) (cl_encV _ (noV)) rfl (.refl _) (.iface _ _ (.int _ _)) ⟨by rw [bothF_mk, hBq, cap_t h69]; rfl, rfl⟩
   ·
    refine mwp_skip <| mwp_seq <| mwp_seq <| qR rfl <| qM rfl rfl rfl <| qO rfl <| op_if0 rfl Tryz.underlying32 rfl rfl (.inr ⟨rfl, rfl⟩) <| qN <| mwp_cond_f rfl (rfl) <| mwp_skip <| mwp_seq <| qR rfl <| qL rfl rfl rfl rfl ta29 rfl <| qO rfl <| op_store' rfl rfl rfl rfl sz29 rfl rfl (Nat.le_of_ble_eq_true rfl) rfl <| qA rfl rfl rfl <| qN <| mwp_ret ?_
    exact ret_cell_tmp (.inr rfl) Tryz.results68 rfl rfl ta29 rfl (.refl _) (cl_encV _ (.mk n3 m3 s3 c3 w3)) rfl (.refl _) (.iface0) ⟨by rw [bothF_mk, hBq, cap_f h69]; rfl, rfl⟩
 ·
  obtain ⟨⟨k1, i1⟩, ⟨k2, i2⟩, rfl⟩ := two_of hd.1
  have ih1 := ih (.mk k1 i1) (hd.2 _ (by simp))
  have ih2 := ih (.mk k2 i2) (hd.2 _ (by simp))
  obtain ⟨x1, y1, rfl, p1, p2⟩ := isV5 ha
  obtain ⟨x2, y2, rfl, q1, q2⟩ := isV5 hb
  have hof := pairs_specJ 5 [.mk k1 i1, .mk k2 i2] (by simp) bothF n1 m1 s1 c1 [x1, y1] n2 m2 s2 c2 [x2, y2] rfl rfl (fun i s x y hs hx hy => by
   match i, hs, hx, hy with
   | 0, hs, hx, hy => simp at hs hx hy; subst hs hx hy; exact ih1 _ _ p1 q1
   | 1, hs, hx, hy => simp at hs hx hy; subst hs hx hy; exact ih2 _ _ p2 q2
   | i + 2, hs, _, _ => simp at hs)
  have hBq : bothB 5 (bothL [.mk k1 i1, .mk k2 i2]) (.mk n1 m1 s1 c1 [x1, y1]) (.mk n2 m2 s2 c2 [x2, y2]) = pairF2 ([.mk k1 i1, .mk k2 i2].map bothF) (.mk n1 m1 s1 c1 [x1, y1]) (.mk n2 m2 s2 c2 [x2, y2]) := by rw [bothL_eq]; rfl
  rcases hO : pairF2 ([.mk k1 i1, .mk k2 i2].map bothF) (.mk n1 m1 s1 c1 [x1, y1]) (.mk n2 m2 s2 c2 [x2, y2]) with _ | ⟨⟨n3, m3, s3, c3, w3⟩⟩ <;> rw [hO] at hof hBq
  ·
   refine mcalls_body Tryz.func68 rfl Tryz.ntmps68 (Nat.le_of_ble_eq_true rfl) ?_
   refine mwp_seq <| qR rfl <| qB rfl rfl rfl rfl rfl <| qB rfl rfl rfl rfl rfl <| qB rfl rfl rfl rfl rfl <| qO rfl <| op_alloc' rfl zm29 rfl rfl <| qA rfl rfl rfl <| qN <| mwp_seq <| mwp_seq <| qR rfl <| qF rfl rfl rfl fo37_0 <| qL rfl rfl rfl rfl ta3 rfl <| qN <| mwp_block <| mwp_seq <| mwp_seq <| qR rfl <| qC rfl rfl rfl rfl rfl <| qA rfl rfl rfl <| qN ?_
   refine mwp_cond_f rfl (rfl) <| qR rfl <| qC rfl rfl rfl rfl rfl <| qA rfl rfl rfl <| qN <| mwp_cond_f rfl (rfl) <| mwp_seq <| qR rfl <| qC rfl rfl rfl rfl rfl <| qA rfl rfl rfl <| qN <| mwp_cond_f rfl (rfl) <| mwp_seq <| qR rfl <| qC rfl rfl rfl rfl rfl <| qA rfl rfl rfl <| qN <| mwp_cond_f rfl (rfl) <| mwp_seq <| qR rfl <| qC rfl rfl rfl rfl rfl <| qA rfl rfl rfl ?_
   refine qN <| mwp_cond_t rfl (rfl) <| qR rfl <| qL rfl rfl rfl rfl ta37 rfl <| qL rfl rfl rfl rfl ta29 rfl <| qL rfl rfl rfl rfl ta29 rfl ?_
   refine wOps_op rfl (op_call rfl rfl rfl co99 ((hof _).mono ?_))
   rintro _ _ ⟨rfl, rfl⟩
   refine qM rfl rfl rfl <| qO rfl <| op_extract rfl rfl rfl <| qO rfl <| op_extract rfl rfl rfl <| qO rfl <| op_store' rfl rfl rfl rfl sz29 rfl rfl (Nat.le_of_ble_eq_true rfl) rfl <| qA rfl rfl rfl <| qN <| mwp_seq <| mwp_seq <| qR rfl <| qM rfl rfl rfl <| qO rfl <| op_ifnil rfl Tryz.underlying32 rfl rfl (.inl ⟨rfl, rfl⟩) <| qM rfl rfl rfl <| qS rfl <| qS rfl <| qP rfl rfl rfl rfl <| qN <| mwp_cond_f rfl (rfl) <| mwp_skip <| mwp_seq <| mwp_seq <| qR rfl ?_
   refine qM rfl rfl rfl <| qO rfl <| op_ifnil rfl Tryz.underlying32 rfl rfl (.inr ⟨rfl, rfl⟩) <| qN <| mwp_cond_t rfl (rfl) <| mwp_seq <| qR rfl <| qO rfl <| op_build rfl Tryz.underlying29 zm29 .nil (by kernel_rfl) ?_
   refine qM rfl rfl rfl <| qO rfl <| op_store' rfl rfl rfl rfl sz29 rfl rfl (Nat.le_of_ble_eq_true rfl) rfl <| qA rfl rfl rfl <| qN <| mwp_ret ?_
   exact ret_cell_tmp (.inr rfl) Tryz.results68 rfl rfl ta29 rfl (.agg (.cons (.refl _) (.cons (.refl _) (.cons (.nil 1) (.cons (.nil 1) (.cons (.nil 5) .nil)))))) (cl_encV _ (noV)) rfl (.refl _) (.iface _ _ (.int _ _)) ⟨by rw [bothF_mk, hBq]; rfl, rfl⟩
  ·
   refine mcalls_body Tryz.func68 rfl Tryz.ntmps68 (Nat.le_of_ble_eq_true rfl) ?_
   refine mwp_seq <| qR rfl <| qB rfl rfl rfl rfl rfl <| qB rfl rfl rfl rfl rfl <| qB rfl rfl rfl rfl rfl <| qO rfl <| op_alloc' rfl zm29 rfl rfl <| qA rfl rfl rfl <| qN <| mwp_seq <| mwp_seq <| qR rfl <| qF rfl rfl rfl fo37_0 <| qL rfl rfl rfl rfl ta3 rfl <| qN <| mwp_block <| mwp_seq <| mwp_seq <| qR rfl <| qC rfl rfl rfl rfl rfl <| qA rfl rfl rfl <| qN ?_
   refine mwp_cond_f rfl (rfl) <| qR rfl <| qC rfl rfl rfl rfl rfl <| qA rfl rfl rfl <| qN <| mwp_cond_f rfl (rfl) <| mwp_seq <| qR rfl <| qC rfl rfl rfl rfl rfl <| qA rfl rfl rfl <| qN <| mwp_cond_f rfl (rfl) <| mwp_seq <| qR rfl <| qC rfl rfl rfl rfl rfl <| qA rfl rfl rfl <| qN <| mwp_cond_f rfl (rfl) <| mwp_seq <| qR rfl <| qC rfl rfl rfl rfl rfl <| qA rfl rfl rfl ?_
   refine qN <| mwp_cond_t rfl (rfl) <| qR rfl <| qL rfl rfl rfl rfl ta37 rfl <| qL rfl rfl rfl rfl ta29 rfl <| qL rfl rfl rfl rfl ta29 rfl ?_
   refine wOps_op rfl (op_call rfl rfl rfl co99 ((hof _).mono ?_))
   rintro _ _ ⟨rfl, rfl⟩
   refine qM rfl rfl rfl <| qO rfl <| op_extract rfl rfl rfl <| qO rfl <| op_extract rfl rfl rfl <| qO rfl <| op_store' rfl rfl rfl rfl sz29 rfl rfl (Nat.le_of_ble_eq_true rfl) rfl <| qA rfl rfl rfl <| qN <| mwp_seq <| mwp_seq <| qR rfl <| qM rfl rfl rfl <| qO rfl <| op_if0 rfl Tryz.underlying32 rfl rfl (.inl ⟨rfl, rfl⟩) <| qM rfl rfl rfl <| qL rfl rfl rfl rfl ta29 rfl ?_
   refine wOps_op rfl (op_call rfl rfl rfl co103 ((isLarge_spec n3 m3 s3 c3 w3 _).mono ?_))
   rintro _ _ ⟨rfl, rfl⟩
   refine qP rfl rfl rfl rfl <| qN ?_
   refine mwp_cond_split rfl (fun h69 => ?_) (fun h69 => ?_)
   ·
    refine qR rfl <| qO rfl <| op_makeInterface rfl rfl Tryz.underlying62 (by simp) ?_
    refine qA rfl rfl rfl <| qN <| mwp_seq <| mwp_seq <| qR rfl <| qM rfl rfl rfl <| qO rfl <| op_ifnil rfl Tryz.underlying32 rfl rfl (.inr ⟨rfl, rfl⟩) <| qN <| mwp_cond_t rfl (rfl) <| mwp_seq <| qR rfl <| qO rfl <| op_build rfl Tryz.underlying29 zm29 .nil (by kernel_rfl) ?_
    refine qM rfl rfl rfl <| qO rfl <| op_store' rfl rfl rfl rfl sz29 rfl rfl (Nat.le_of_ble_eq_true rfl) rfl <| qA rfl rfl rfl <| qN <| mwp_ret ?_
    exact ret_cell_tmp (.inr rfl) Tryz.results68 rfl rfl ta29 rfl (.agg (.cons (.refl _) (.cons (.refl _) (.cons (.nil 1) (.cons (.nil 1) (.cons (.nil 5) .nil)))))) (cl_encV _ (noV)) rfl (.refl _) (.iface _ _ (.int _ _)) ⟨by rw [bothF_mk, hBq, cap_t h69]; rfl, rfl⟩
   ·
    refine mwp_skip <| mwp_seq <| mwp_seq <| qR rfl <| qM rfl rfl rfl <| qO rfl <| op_if0 rfl Tryz.underlying32 rfl rfl (.inr ⟨rfl, rfl⟩) <| qN <| mwp_cond_f rfl (rfl) <| mwp_skip <| mwp_seq <| qR rfl <| qL rfl rfl rfl rfl ta29 rfl <| qO rfl <| op_store' rfl rfl rfl rfl sz29 rfl rfl (Nat.le_of_ble_eq_true rfl) rfl <| qA rfl rfl rfl <| qN <| mwp_ret ?_
    exact ret_cell_tmp (.inr rfl) Tryz.results68 rfl rfl ta29 rfl (.refl _) (cl_encV _ (.mk n3 m3 s3 c3 w3)) rfl (.refl _) (.iface0) ⟨by rw [bothF_mk, hBq, cap_f h69]; rfl, rfl⟩
 ·
  obtain ⟨n3, m3, s3, c3, w3, hlt⟩ : ∃ n m s c w, laterF (.mk n1 m1 s1 c1 w1) (.mk n2 m2 s2 c2 w2) = .mk n m s c w := by cases laterF (.mk n1 m1 s1 c1 w1) (.mk n2 m2 s2 c2 w2) with
   | mk n m s c w => exact ⟨n, m, s, c, w, rfl⟩
  have hlt2 := later_spec n1 m1 s1 c1 w1 n2 m2 s2 c2 w2
  rw [hlt] at hlt2
  have hB : bothB 6 (bothL ins) (.mk n1 m1 s1 c1 w1) (.mk n2 m2 s2 c2 w2) = some (.mk n3 m3 s3 c3 w3) := congrArg some hlt
  refine mcalls_body Tryz.func68 rfl Tryz.ntmps68 (Nat.le_of_ble_eq_true rfl) ?_
  refine mwp_seq <| qR rfl <| qB rfl rfl rfl rfl rfl <| qB rfl rfl rfl rfl rfl <| qB rfl rfl rfl rfl rfl <| qO rfl <| op_alloc' rfl zm29 rfl rfl <| qA rfl rfl rfl <| qN <| mwp_seq <| mwp_seq <| qR rfl <| qF rfl rfl rfl fo37_0 <| qL rfl rfl rfl rfl ta3 rfl <| qN <| mwp_block <| mwp_seq <| mwp_seq <| qR rfl <| qC rfl rfl rfl rfl rfl <| qA rfl rfl rfl <| qN ?_
  refine mwp_cond_f rfl (rfl) <| qR rfl <| qC rfl rfl rfl rfl rfl <| qA rfl rfl rfl <| qN <| mwp_cond_f rfl (rfl) <| mwp_seq <| qR rfl <| qC rfl rfl rfl rfl rfl <| qA rfl rfl rfl <| qN <| mwp_cond_f rfl (rfl) <| mwp_seq <| qR rfl <| qC rfl rfl rfl rfl rfl <| qA rfl rfl rfl <| qN <| mwp_cond_f rfl (rfl) <| mwp_seq <| qR rfl <| qC rfl rfl rfl rfl rfl <| qA rfl rfl rfl ?_
  refine qN <| mwp_cond_f rfl (rfl) <| mwp_seq <| qR rfl <| qC rfl rfl rfl rfl rfl <| qA rfl rfl rfl <| qN <| mwp_cond_t rfl (rfl) <| qR rfl <| qL rfl rfl rfl rfl ta29 rfl <| qL rfl rfl rfl rfl ta29 rfl ?_
  refine wOps_op rfl (op_call rfl rfl rfl co100 ((hlt2 _).mono ?_))
  rintro _ _ ⟨rfl, rfl⟩
  refine qO rfl <| op_store' rfl rfl rfl rfl sz29 rfl rfl (Nat.le_of_ble_eq_true rfl) rfl <| qN <| mwp_seq <| mwp_seq <| qR rfl <| qM rfl rfl rfl <| qO rfl <| op_if0 rfl Tryz.underlying32 rfl rfl (.inl ⟨rfl, rfl⟩) <| qM rfl rfl rfl <| qL rfl rfl rfl rfl ta29 rfl ?_
  refine wOps_op rfl (op_call rfl rfl rfl co103 ((isLarge_spec n3 m3 s3 c3 w3 _).mono ?_))
  rintro _ _ ⟨rfl, rfl⟩
  refine qP rfl rfl rfl rfl <| qN ?_
  refine mwp_cond_split rfl (fun h69 => ?_) (fun h69 => ?_)
  ·
   refine qR rfl <| qO rfl <| op_makeInterface rfl rfl Tryz.underlying62 (by simp) ?_
   refine qA rfl rfl rfl <| qN <| mwp_seq <| mwp_seq <| qR rfl <| qM rfl rfl rfl <| qO rfl <| op_ifnil rfl Tryz.underlying32 rfl rfl (.inr ⟨rfl, rfl⟩) <| qN <| mwp_cond_t rfl (rfl) <| mwp_seq <| qR rfl <| qO rfl <| op_build rfl Tryz.underlying29 zm29 .nil (by kernel_rfl) ?_
   refine qM rfl rfl rfl <| qO rfl <| op_store' rfl rfl rfl rfl sz29 rfl rfl (Nat.le_of_ble_eq_true rfl) rfl <| qA rfl rfl rfl <| qN <| mwp_ret ?_
   exact ret_cell_tmp (.inr rfl) Tryz.results68 rfl rfl ta29 rfl (.agg (.cons (.refl _) (.cons (.refl _) (.cons (.nil 1) (.cons (.nil 1) (.cons (.nil 5) .nil)))))) (cl_encV _ (noV)) rfl (.refl _) (.iface _ _ (.int _ _)) ⟨by rw [bothF_mk, hB, cap_t h69]; rfl, rfl⟩
  ·
   refine mwp_skip <| mwp_seq <| mwp_seq <| qR rfl <| qM rfl rfl rfl <| qO rfl <| op_if0 rfl Tryz.underlying32 rfl rfl (.inr ⟨rfl, rfl⟩) <| qN <| mwp_cond_f rfl (rfl) <| mwp_skip <| mwp_seq <| qR rfl <| qL rfl rfl rfl rfl ta29 rfl <| qO rfl <| op_store' rfl rfl rfl rfl sz29 rfl rfl (Nat.le_of_ble_eq_true rfl) rfl <| qA rfl rfl rfl <| qN <| mwp_ret ?_
   exact ret_cell_tmp (.inr rfl) Tryz.results68 rfl rfl ta29 rfl (.refl _) (cl_encV _ (.mk n3 m3 s3 c3 w3)) rfl (.refl _) (.iface0) ⟨by rw [bothF_mk, hB, cap_f h69]; rfl, rfl⟩
 ·
  have b1 := isV7 ha
  have b2 := isV7 hb
  obtain ⟨n3, m3, s3, c3, w3, hlt⟩ : ∃ n m s c w, clocksF (.mk n1 m1 s1 c1 w1) (.mk n2 m2 s2 c2 w2) = .mk n m s c w := by cases clocksF (.mk n1 m1 s1 c1 w1) (.mk n2 m2 s2 c2 w2) with
   | mk n m s c w => exact ⟨n, m, s, c, w, rfl⟩
  have hlt2 := clocks_spec n1 m1 s1 c1 w1 n2 m2 s2 c2 w2 (fun x hx y hy => by have := b1 x hx; have := b2 y hy; omega)
  rw [hlt] at hlt2
  have hB : bothB 7 (bothL ins) (.mk n1 m1 s1 c1 w1) (.mk n2 m2 s2 c2 w2) = some (.mk n3 m3 s3 c3 w3) := congrArg some hlt
  refine mcalls_body Tryz.func68 rfl Tryz.ntmps68 (Nat.le_of_ble_eq_true rfl) ?_
  refine mwp_seq <| qR rfl <| qB rfl rfl rfl rfl rfl <| qB rfl rfl rfl rfl rfl <| qB rfl rfl rfl rfl rfl <| qO rfl <| op_alloc' rfl zm29 rfl rfl <| qA rfl rfl rfl <| qN <| mwp_seq <| mwp_seq <| qR rfl <| qF rfl rfl rfl fo37_0 <| qL rfl rfl rfl rfl ta3 rfl <| qN <| mwp_block <| mwp_seq <| mwp_seq <| qR rfl <| qC rfl rfl rfl rfl rfl <| qA rfl rfl rfl <| qN ?_
  refine mwp_cond_f rfl (rfl) <| qR rfl <| qC rfl rfl rfl rfl rfl <| qA rfl rfl rfl <| qN <| mwp_cond_f rfl (rfl) <| mwp_seq <| qR rfl <| qC rfl rfl rfl rfl rfl <| qA rfl rfl rfl <| qN <| mwp_cond_f rfl (rfl) <| mwp_seq <| qR rfl <| qC rfl rfl rfl rfl rfl <| qA rfl rfl rfl <| qN <| mwp_cond_f rfl (rfl) <| mwp_seq <| qR rfl <| qC rfl rfl rfl rfl rfl <| qA rfl rfl rfl ?_
  refine qN <| mwp_cond_f rfl (rfl) <| mwp_seq <| qR rfl <| qC rfl rfl rfl rfl rfl <| qA rfl rfl rfl <| qN <| mwp_cond_f rfl (rfl) <| mwp_seq <| qR rfl <| qC rfl rfl rfl rfl rfl <| qA rfl rfl rfl <| qN <| mwp_cond_t rfl (rfl) <| qR rfl <| qL rfl rfl rfl rfl ta29 rfl <| qL rfl rfl rfl rfl ta29 rfl ?_
  refine wOps_op rfl (op_call rfl rfl rfl co101 ((hlt2 _).mono ?_))
  rintro _ _ ⟨rfl, rfl⟩
  refine qO rfl <| op_store' rfl rfl rfl rfl sz29 rfl rfl (Nat.le_of_ble_eq_true rfl) rfl <| qN <| mwp_seq <| mwp_seq <| qR rfl <| qM rfl rfl rfl <| qO rfl <| op_if0 rfl Tryz.underlying32 rfl rfl (.inl ⟨rfl, rfl⟩) <| qM rfl rfl rfl <| qL rfl rfl rfl rfl ta29 rfl ?_
  refine wOps_op rfl (op_call rfl rfl rfl co103 ((isLarge_spec n3 m3 s3 c3 w3 _).mono ?_))
  rintro _ _ ⟨rfl, rfl⟩
  refine qP rfl rfl rfl rfl <| qN ?_
  refine mwp_cond_split rfl (fun h69 => ?_) (fun h69 => ?_)
  ·
   refine qR rfl <| qO rfl <| op_makeInterface rfl rfl Tryz.underlying62 (by simp) ?_
   refine qA rfl rfl rfl <| qN <| mwp_seq <| mwp_seq <| qR rfl <| qM rfl rfl rfl <| qO rfl <| op_ifnil rfl Tryz.underlying32 rfl rfl (.inr ⟨rfl, rfl⟩) <| qN <| mwp_cond_t rfl (rfl) <| mwp_seq <| qR rfl <| qO rfl <| op_build rfl Tryz.underlying29 zm29 .nil (by kernel_rfl) ?_
   refine qM rfl rfl rfl <| qO rfl <| op_store' rfl rfl rfl rfl sz29 rfl rfl (Nat.le_of_ble_eq_true rfl) rfl <| qA rfl rfl rfl <| qN <| mwp_ret ?_
   exact ret_cell_tmp (.inr rfl) Tryz.results68 rfl rfl ta29 rfl (.agg (.cons (.refl _) (.cons (.refl _) (.cons (.nil 1) (.cons (.nil 1) (.cons (.nil 5) .nil)))))) (cl_encV _ (noV)) rfl (.refl _) (.iface _ _ (.int _ _)) ⟨by rw [bothF_mk, hB, cap_t h69]; rfl, rfl⟩
  ·
   refine mwp_skip <| mwp_seq <| mwp_seq <| qR rfl <| qM rfl rfl rfl <| qO rfl <| op_if0 rfl Tryz.underlying32 rfl rfl (.inr ⟨rfl, rfl⟩) <| qN <| mwp_cond_f rfl (rfl) <| mwp_skip <| mwp_seq <| qR rfl <| qL rfl rfl rfl rfl ta29 rfl <| qO rfl <| op_store' rfl rfl rfl rfl sz29 rfl rfl (Nat.le_of_ble_eq_true rfl) rfl <| qA rfl rfl rfl <| qN <| mwp_ret ?_
   exact ret_cell_tmp (.inr rfl) Tryz.results68 rfl rfl ta29 rfl (.refl _) (cl_encV _ (.mk n3 m3 s3 c3 w3)) rfl (.refl _) (.iface0) ⟨by rw [bothF_mk, hB, cap_f h69]; rfl, rfl⟩
 ·
  obtain ⟨⟨k1, i1⟩, rfl⟩ := one_ins hd.1 (by decide)
  have ih1 := ih (.mk k1 i1) (hd.2 _ (by simp))
  obtain ⟨p1, p2, p4, p3⟩ := isV8 ha
  obtain ⟨q1, q2, q4, q3⟩ := isV8 hb
  have hof := causes_spec 8 k1 i1 [] (bothF (.mk k1 i1)) n1 m1 s1 c1 w1 n2 m2 s2 c2 w2 p2 q2 p1 q1 (fun x hx => by have := p4 x hx; omega) (fun x hx => by have := q4 x hx; omega) (fun x hx y hy => ih1 x y (p3 x hx) (q3 y hy))
  have hBq : bothB 8 (bothL [.mk k1 i1]) (.mk n1 m1 s1 c1 w1) (.mk n2 m2 s2 c2 w2) = causesF (bothF (.mk k1 i1)) (.mk n1 m1 s1 c1 w1) (.mk n2 m2 s2 c2 w2) := rfl
  rcases hO : causesF (bothF (.mk k1 i1)) (.mk n1 m1 s1 c1 w1) (.mk n2 m2 s2 c2 w2) with _ | ⟨⟨n3, m3, s3, c3, w3⟩⟩ <;> rw [hO] at hof hBq
  ·
   refine mcalls_body Tryz.func68 rfl Tryz.ntmps68 (Nat.le_of_ble_eq_true rfl) ?_
   refine mwp_seq <| qR rfl <| qB rfl rfl rfl rfl rfl <| qB rfl rfl rfl rfl rfl <| qB rfl rfl rfl rfl rfl <| qO rfl <| op_alloc' rfl zm29 rfl rfl <| qA rfl rfl rfl <| qN <| mwp_seq <| mwp_seq <| qR rfl <| qF rfl rfl rfl fo37_0 <| qL rfl rfl rfl rfl ta3 rfl <| qN <| mwp_block <| mwp_seq <| mwp_seq <| qR rfl <| qC rfl rfl rfl rfl rfl <| qA rfl rfl rfl <| qN ?_
   refine mwp_cond_f rfl (rfl) <| qR rfl <| qC rfl rfl rfl rfl rfl <| qA rfl rfl rfl <| qN <| mwp_cond_f rfl (rfl) <| mwp_seq <| qR rfl <| qC rfl rfl rfl rfl rfl <| qA rfl rfl rfl <| qN <| mwp_cond_f rfl (rfl) <| mwp_seq <| qR rfl <| qC rfl rfl rfl rfl rfl <| qA rfl rfl rfl <| qN <| mwp_cond_f rfl (rfl) <| mwp_seq <| qR rfl <| qC rfl rfl rfl rfl rfl <| qA rfl rfl rfl ?_
   refine qN <| mwp_cond_f rfl (rfl) <| mwp_seq <| qR rfl <| qC rfl rfl rfl rfl rfl <| qA rfl rfl rfl <| qN <| mwp_cond_f rfl (rfl) <| mwp_seq <| qR rfl <| qC rfl rfl rfl rfl rfl <| qA rfl rfl rfl <| qN <| mwp_cond_f rfl (rfl) <| mwp_seq <| qR rfl <| qC rfl rfl rfl rfl rfl <| qA rfl rfl rfl <| qN <| mwp_cond_t rfl (rfl) <| qR rfl <| qL rfl rfl rfl rfl ta37 rfl <| qL rfl rfl rfl rfl ta29 rfl ?_
   refine qL rfl rfl rfl rfl ta29 rfl ?_
   refine wOps_op rfl (op_call rfl rfl rfl co102 ((hof _).mono ?_))
   rintro _ _ ⟨rfl, rfl⟩
   refine qM rfl rfl rfl <| qO rfl <| op_extract rfl rfl rfl <| qO rfl <| op_extract rfl rfl rfl <| qO rfl <| op_store' rfl rfl rfl rfl sz29 rfl rfl (Nat.le_of_ble_eq_true rfl) rfl <| qA rfl rfl rfl <| qN <| mwp_seq <| mwp_seq <| qR rfl <| qM rfl rfl rfl <| qO rfl <| op_ifnil rfl Tryz.underlying32 rfl rfl (.inl ⟨rfl, rfl⟩) <| qM rfl rfl rfl <| qS rfl <| qS rfl <| qP rfl rfl rfl rfl <| qN <| mwp_cond_f rfl (rfl) <| mwp_skip <| mwp_seq <| mwp_seq <| qR rfl ?_
   refine qM rfl rfl rfl <| qO rfl <| op_ifnil rfl Tryz.underlying32 rfl rfl (.inr ⟨rfl, rfl⟩) <| qN <| mwp_cond_t rfl (rfl) <| mwp_seq <| qR rfl <| qO rfl <| op_build rfl Tryz.underlying29 zm29 .nil (by kernel_rfl) ?_
   refine qM rfl rfl rfl <| qO rfl <| op_store' rfl rfl rfl rfl sz29 rfl rfl (Nat.le_of_ble_eq_true rfl) rfl <| qA rfl rfl rfl <| qN <| mwp_ret ?_
   exact ret_cell_tmp (.inr rfl) Tryz.results68 rfl rfl ta29 rfl (.agg (.cons (.refl _) (.cons (.refl _) (.cons (.nil 1) (.cons (.nil 1) (.cons (.nil 5) .nil)))))) (cl_encV _ (noV)) rfl (.refl _) (.iface _ _ (.int _ _)) ⟨by rw [bothF_mk, hBq]; rfl, rfl⟩
  ·
   refine mcalls_body Tryz.func68 rfl Tryz.ntmps68 (Nat.le_of_ble_eq_true rfl) ?_
   refine mwp_seq <| qR rfl <| qB rfl rfl rfl rfl rfl <| qB rfl rfl rfl rfl rfl <| qB rfl rfl rfl rfl rfl <| qO rfl <| op_alloc' rfl zm29 rfl rfl <| qA rfl rfl rfl <| qN <| mwp_seq <| mwp_seq <| qR rfl <| qF rfl rfl rfl fo37_0 <| qL rfl rfl rfl rfl ta3 rfl <| qN <| mwp_block <| mwp_seq <| mwp_seq <| qR rfl <| qC rfl rfl rfl rfl rfl <| qA rfl rfl rfl <| qN ?_
   refine mwp_cond_f rfl (rfl) <| qR rfl <| qC rfl rfl rfl rfl rfl <| qA rfl rfl rfl <| qN <| mwp_cond_f rfl (rfl) <| mwp_seq <| qR rfl <| qC rfl rfl rfl rfl rfl <| qA rfl rfl rfl <| qN <| mwp_cond_f rfl (rfl) <| mwp_seq <| qR rfl <| qC rfl rfl rfl rfl rfl <| qA rfl rfl rfl <| qN <| mwp_cond_f rfl (rfl) <| mwp_seq <| qR rfl <| qC rfl rfl rfl rfl rfl <| qA rfl rfl rfl ?_
   refine qN <| mwp_cond_f rfl (rfl) <| mwp_seq <| qR rfl <| qC rfl rfl rfl rfl rfl <| qA rfl rfl rfl <| qN <| mwp_cond_f rfl (rfl) <| mwp_seq <| qR rfl <| qC rfl rfl rfl rfl rfl <| qA rfl rfl rfl <| qN <| mwp_cond_f rfl (rfl) <| mwp_seq <| qR rfl <| qC rfl rfl rfl rfl rfl <| qA rfl rfl rfl <| qN <| mwp_cond_t rfl (rfl) <| qR rfl <| qL rfl rfl rfl rfl ta37 rfl <| qL rfl rfl rfl rfl ta29 rfl ?_
   refine qL rfl rfl rfl rfl ta29 rfl ?_
   refine wOps_op rfl (op_call rfl rfl rfl co102 ((hof _).mono ?_))
   rintro _ _ ⟨rfl, rfl⟩
   refine qM rfl rfl rfl <| qO rfl <| op_extract rfl rfl rfl <| qO rfl <| op_extract rfl rfl rfl <| qO rfl <| op_store' rfl rfl rfl rfl sz29 rfl rfl (Nat.le_of_ble_eq_true rfl) rfl <| qA rfl rfl rfl <| qN <| mwp_seq <| mwp_seq <| qR rfl <| qM rfl rfl rfl <| qO rfl <| op_if0 rfl Tryz.underlying32 rfl rfl (.inl ⟨rfl, rfl⟩) <| qM rfl rfl rfl <| qL rfl rfl rfl rfl ta29 rfl ?_
   refine wOps_op rfl (op_call rfl rfl rfl co103 ((isLarge_spec n3 m3 s3 c3 w3 _).mono ?_))
   rintro _ _ ⟨rfl, rfl⟩
   refine qP rfl rfl rfl rfl <| qN ?_
   refine mwp_cond_split rfl (fun h69 => ?_) (fun h69 => ?_)
   ·
    refine qR rfl <| qO rfl <| op_makeInterface rfl rfl Tryz.underlying62 (by simp) ?_
    refine qA rfl rfl rfl <| qN <| mwp_seq <| mwp_seq <| qR rfl <| qM rfl rfl rfl <| qO rfl <| op_ifnil rfl Tryz.underlying32 rfl rfl (.inr ⟨rfl, rfl⟩) <| qN <| mwp_cond_t rfl (rfl) <| mwp_seq <| qR rfl <| qO rfl <| op_build rfl Tryz.underlying29 zm29 .nil (by kernel_rfl) ?_
    refine qM rfl rfl rfl <| qO rfl <| op_store' rfl rfl rfl rfl sz29 rfl rfl (Nat.le_of_ble_eq_true rfl) rfl <| qA rfl rfl rfl <| qN <| mwp_ret ?_
    exact ret_cell_tmp (.inr rfl) Tryz.results68 rfl rfl ta29 rfl (.agg (.cons (.refl _) (.cons (.refl _) (.cons (.nil 1) (.cons (.nil 1) (.cons (.nil 5) .nil)))))) (cl_encV _ (noV)) rfl (.refl _) (.iface _ _ (.int _ _)) ⟨by rw [bothF_mk, hBq, cap_t h69]; rfl, rfl⟩
   ·
    refine mwp_skip <| mwp_seq <| mwp_seq <| qR rfl <| qM rfl rfl rfl <| qO rfl <| op_if0 rfl Tryz.underlying32 rfl rfl (.inr ⟨rfl, rfl⟩) <| qN <| mwp_cond_f rfl (rfl) <| mwp_skip <| mwp_seq <| qR rfl <| qL rfl rfl rfl rfl ta29 rfl <| qO rfl <| op_store' rfl rfl rfl rfl sz29 rfl rfl (Nat.le_of_ble_eq_true rfl) rfl <| qA rfl rfl rfl <| qN <| mwp_ret ?_
    exact ret_cell_tmp (.inr rfl) Tryz.results68 rfl rfl ta29 rfl (.refl _) (cl_encV _ (.mk n3 m3 s3 c3 w3)) rfl (.refl _) (.iface0) ⟨by rw [bothF_mk, hBq, cap_f h69]; rfl, rfl⟩
end Go.Proofs.YtlooahbfpmigfaaGreat
end
section
set_option linter.unusedVariables false
set_option linter.unusedSimpArgs false
namespace Go.Proofs.YtlooahbfpmigfaaGreat
open Go Go.MV Go.RowKit
theorem okV_mk {n m : Int} {s : List Bs} {c : List (List Tk)} {w : List Val} : okV (.mk n m s c w) ↔ (0 ≤ n ∧ n < 18446744073709551616) ∧ (0 ≤ m ∧ m < 18446744073709551616) ∧ (∀ x ∈ c, ∀ t ∈ x, okTk t) ∧ ∀ x ∈ w, okV x := by rw [okV, okVs_iff]
end Go.Proofs.YtlooahbfpmigfaaGreat
end
section
set_option linter.unusedVariables false
set_option linter.unusedSimpArgs false
set_option maxRecDepth 20000
set_option maxHeartbeats 400000
namespace Go.Proofs.YtlooahbfpmigfaaGreat
open Go Go.MV
theorem join_err {s : Sch} {a b : Val} (h : ¬ ((isF 16 s && isVF s a) = true ∧ (isF 16 s && isVF s b) = true)) : joinVF s a b = .error 14 := by unfold joinVF; rw [if_neg h]
theorem join_both {s : Sch} {a b : Val} (ha : (isF 16 s && isVF s a) = true) (hb : (isF 16 s && isVF s b) = true) : encJ (joinVF s a b) = encO (bothF s a b) := by
 unfold joinVF
 rw [if_pos ⟨ha, hb⟩]
 cases bothF s a b <;> rfl
theorem okV_no : okV noV := by simp [okV, okVs, noV]
theorem join_spec (s : Sch) (a b : Val) (ha : okV a) (hb : okV b) (S : MS) : MCalls Tryz.prog 44 [encS s, encV a, encV b] S fun v σ' => v = encJ (joinVF s a b) ∧ σ' = S := by
 obtain ⟨k, ins⟩ := s
 obtain ⟨n1, m1, s1, c1, w1⟩ := a
 obtain ⟨n2, m2, s2, c2, w2⟩ := b
 refine mcalls_body Tryz.func44 rfl Tryz.ntmps44 (Nat.le_of_ble_eq_true rfl) ?_
 refine mwp_seq <| qR rfl <| qB rfl rfl rfl rfl rfl <| qB rfl rfl rfl rfl rfl <| qB rfl rfl rfl rfl rfl <| qO rfl <| op_alloc' rfl zm29 rfl rfl <| qA rfl rfl rfl <| qN <| mwp_seq <| mwp_seq <| qR rfl <| qL rfl rfl rfl rfl ta37 rfl <| qL rfl rfl rfl rfl ta29 rfl ?_
 refine wOps_op rfl (op_call rfl rfl rfl co49 ((valIs_spec (.mk k ins) (.mk n1 m1 s1 c1 w1) ha _).mono ?_))
 rintro _ _ ⟨rfl, rfl⟩
 refine qO rfl <| op_not rfl rfl <| qM rfl rfl rfl ?_
 refine wOps_case (fun h12 => ?_) (fun h12 => ?_)
 ·
  refine qS rfl <| qS rfl <| qS rfl <| qS rfl <| qP rfl rfl rfl rfl <| qN <| mwp_cond_t rfl (rfl) <| mwp_seq <| qR rfl <| qO rfl <| op_build rfl Tryz.underlying29 zm29 .nil (by kernel_rfl) ?_
  refine qO rfl <| op_makeInterface rfl rfl Tryz.underlying62 (by simp) ?_
  refine qO rfl <| op_store' rfl rfl rfl rfl sz29 rfl rfl (Nat.le_of_ble_eq_true rfl) rfl <| qA rfl rfl rfl <| qN <| mwp_ret ?_
  exact ret_cell_tmp (.inr rfl) Tryz.results44 rfl rfl ta29 rfl (.agg (.cons (.refl _) (.cons (.refl _) (.cons (.nil 1) (.cons (.nil 1) (.cons (.nil 5) .nil)))))) (cl_encV _ (noV)) rfl (.refl _) (.iface _ _ (.int _ _)) ⟨by rw [join_err (fun hq => by first | (rw [hq.1] at h12; exact absurd h12 (by decide)) | (rw [hq.2] at h17; exact absurd h17 (by decide)))]; rfl, rfl⟩
 ·
  refine qL rfl rfl rfl rfl ta37 rfl <| qL rfl rfl rfl rfl ta29 rfl ?_
  refine wOps_op rfl (op_call rfl rfl rfl co49 ((valIs_spec (.mk k ins) (.mk n2 m2 s2 c2 w2) hb _).mono ?_))
  rintro _ _ ⟨rfl, rfl⟩
  refine qO rfl <| op_not rfl rfl <| qP rfl rfl rfl rfl <| qN ?_
  refine mwp_cond_split rfl (fun h17 => ?_) (fun h17 => ?_)
  ·
   refine mwp_seq <| qR rfl <| qO rfl <| op_build rfl Tryz.underlying29 zm29 .nil (by kernel_rfl) ?_
   refine qO rfl <| op_makeInterface rfl rfl Tryz.underlying62 (by simp) ?_
   refine qO rfl <| op_store' rfl rfl rfl rfl sz29 rfl rfl (Nat.le_of_ble_eq_true rfl) rfl <| qA rfl rfl rfl <| qN <| mwp_ret ?_
   exact ret_cell_tmp (.inr rfl) Tryz.results44 rfl rfl ta29 rfl (.agg (.cons (.refl _) (.cons (.refl _) (.cons (.nil 1) (.cons (.nil 1) (.cons (.nil 5) .nil)))))) (cl_encV _ (noV)) rfl (.refl _) (.iface _ _ (.int _ _)) ⟨by rw [join_err (fun hq => by first | (rw [hq.1] at h12; exact absurd h12 (by decide)) | (rw [hq.2] at h17; exact absurd h17 (by decide)))]; rfl, rfl⟩
  ·
   refine mwp_skip <| mwp_seq ?_
   have ha2 : (isF 16 (.mk k ins) && isVF (.mk k ins) (.mk n1 m1 s1 c1 w1)) = true := by simpa using h12
   have hb2 : (isF 16 (.mk k ins) && isVF (.mk k ins) (.mk n2 m2 s2 c2 w2)) = true := by simpa using h17
   have hof := both_spec 16 (.mk k ins) (by rw [Bool.and_eq_true] at ha2; exact ha2.1) (.mk n1 m1 s1 c1 w1) (.mk n2 m2 s2 c2 w2) (by rw [Bool.and_eq_true] at ha2; exact ha2.2) (by rw [Bool.and_eq_true] at hb2; exact hb2.2)
   obtain ⟨n3, m3, s3, c3, w3, h3⟩ := encO_of (bothF (.mk k ins) (.mk n1 m1 s1 c1 w1) (.mk n2 m2 s2 c2 w2))
   have hO : encO (bothF (.mk k ins) (.mk n1 m1 s1 c1 w1) (.mk n2 m2 s2 c2 w2)) = .tup [encV (.mk n3 m3 s3 c3 w3), errO (bothF (.mk k ins) (.mk n1 m1 s1 c1 w1) (.mk n2 m2 s2 c2 w2))] := by rw [encO, h3]
   rw [hO] at hof
   refine qR rfl <| qL rfl rfl rfl rfl ta37 rfl <| qL rfl rfl rfl rfl ta29 rfl <| qL rfl rfl rfl rfl ta29 rfl ?_
   refine wOps_op rfl (op_call rfl rfl rfl co68 ((hof _).mono ?_))
   rintro _ _ ⟨rfl, rfl⟩
   refine qO rfl <| op_extract rfl rfl rfl <| qO rfl <| op_extract rfl rfl rfl <| qO rfl <| op_store' rfl rfl rfl rfl sz29 rfl rfl (Nat.le_of_ble_eq_true rfl) rfl <| qA rfl rfl rfl <| qN <| mwp_ret ?_
   exact ret_cell_tmp (.inr rfl) Tryz.results44 rfl rfl ta29 rfl (.refl _) (cl_encV _ (.mk n3 m3 s3 c3 w3)) rfl (.refl _) ((cl_errO _ _)) ⟨by rw [join_both ha2 hb2, hO]; rfl, rfl⟩
end Go.Proofs.YtlooahbfpmigfaaGreat
end
section
set_option linter.unusedVariables false
set_option linter.unusedSimpArgs false
set_option maxHeartbeats 1000000
set_option maxRecDepth 20000
namespace Go.Proofs.YtlooahbfpmigfaaGreat
open Go Go.MV Go.RowKit Go.Extern.Stop Go.Extern
theorem tT (v : Value) (w : World) : (Extern.ReflectliteType.typeOf #[.iface 62 v]).run Tryz.prog w = .ok (.iface 110 (.agg #[.pointer (some ⟨Tryz.prog.globals.size, 62, none⟩)])) w := by kernel_rfl
theorem cT (w : World) : ((Extern.ReflectliteType.method fun t => do Extern.Rtype.noPackHeld "Comparable" t; pure (.bool (← typeInfo t).comparable)) #[.agg #[.pointer (some ⟨Tryz.prog.globals.size, 62, none⟩)]]).run Tryz.prog w = .ok (.bool true) w := by kernel_rfl
theorem mR (v : Value) (w : World) : (Go.method 317 110 v "Comparable").run Tryz.prog w = .ok (190, v) w := by kernel_rfl
theorem errComp : (Tryz.prog.info? 62).map (·.comparable) = some true := by kernel_rfl
theorem eqErr (n : Int) (w : World) : (binOp .eql 32 (.iface 62 (.int .i64 n)) (.iface 62 (.int .i64 n))).run Tryz.prog w = .ok (.bool true) w := by
  obtain ⟨i, hi, hcmp⟩ := Option.map_eq_some_iff.1 errComp
  have h : ∀ d : Nat, (Op.equalIn (d + 2) 32 (.iface 62 (.int .i64 n)) (.iface 62 (.int .i64 n))).run Tryz.prog w = .ok true w := fun d => by
    simp [Op.equalIn, run_underlying Tryz.underlying32, run_underlying Tryz.underlying62, typeInfo, hi, hcmp]
  simp only [binOp]
  simp [Op.equal, Op.maxDepth, h 9998]
theorem nilErr (v : Value) (w : World) : (binOp .eql 32 (.iface 62 v) .nilIface).run Tryz.prog w = .ok (.bool false) w := by
  have h : ∀ d : Nat, (Op.equalIn (d + 1) 32 (.iface 62 v) .nilIface).run Tryz.prog w = .ok false w := fun d => by simp [Op.equalIn, run_underlying Tryz.underlying32]
  simp only [binOp]
  simp [Op.equal, Op.maxDepth, h 9999]
theorem isSame (n : Int) (w : World) : Calls Tryz.prog 32 #[.iface 62 (.int .i64 n), .iface 62 (.int .i64 n)] w fun e w' => e = .returned (.bool true) ∧ w' = w := by
  have h8 := @run_callFunc_extern Tryz.prog 58 _ Extern.ReflectliteType.typeOf Tryz.func58 (by kernel_rfl) (by kernel_rfl) (by kernel_rfl) (by kernel_rfl)
  have h32 := @run_callFunc_extern Tryz.prog 190 _ (Extern.ReflectliteType.method fun t => do Extern.Rtype.noPackHeld "Comparable" t; pure (.bool (← typeInfo t).comparable)) Tryz.func190 (by kernel_rfl) (by kernel_rfl) (by kernel_rfl) (by kernel_rfl)
  obtain ⟨H, hT, hC⟩ : ∃ H : Value, (∀ (v : Value) (w : World), (callFunc 58 #[.iface 62 v]).run Tryz.prog w = .ok (.value (.iface 110 H)) w) ∧ (∀ w : World, (callFunc 190 #[H]).run Tryz.prog w = .ok (.value (.bool true)) w) := ⟨_, fun v w => by rw [h8, tT]; rfl, fun w => by rw [h32, cT]; rfl⟩
  clear h8 h32
  have mR := mR
  have heq := eqErr n w
  have hnil := nilErr (.int .i64 n) w
  go_enter Tryz.func32, Tryz.ntmps32
  go_wp2
  refine wp_loop_rounds 1 ?_
  rw [rounds_succ]
  go_wp2
  go_ret
  exact ⟨rfl, rfl⟩
theorem errIs_spec (n : Int) (S : MS) : MCalls Tryz.prog 32 [.iface 62 (.int .i64 n), .iface 62 (.int .i64 n)] S fun v σ' => v = .bool true ∧ σ' = S := by
  intro g w vs hrel hrd
  obtain ⟨u, us, rfl, h1, h2⟩ := hrd.uncons
  obtain ⟨u2, us2, rfl, h3, h4⟩ := h2.uncons
  obtain ⟨a, rfl, ha⟩ := h1.inv_iface
  obtain ⟨b, rfl, hb⟩ := h3.inv_iface
  have e1 := ha.inv_int
  have e2 := hb.inv_int
  have e3 : us2 = [] := List.eq_nil_of_length_eq_zero h4.1
  subst e1 e2 e3
  refine (callsIn_wide.2 (isSame n w)).mono ?_
  rintro e w' ⟨rfl, rfl⟩
  exact ⟨_, rfl, .bool true, S, g, ⟨rfl, rfl⟩, hrel, .bool _, .refl _ _⟩
end Go.Proofs.YtlooahbfpmigfaaGreat
end
section
set_option linter.unusedVariables false
set_option linter.unusedSimpArgs false
namespace Go.MV
open Go Go.RowKit
section
variable {P : Program} {rd : Option Nat} {o : Oper} {env : Env} {σ : MS} {K : MV → MS → Prop}
theorem op_ifint {b : BinOp} {r : Bool} {t e t' : TypeId} {x y : Operand} {k k' : IntKind} {m n : Int} {ms : Array (String × TypeId)} (ho : o.op = .binOp b t x y t') (hu : P.underlying t = some (.interface ms)) (hc : (P.info? e).map (·.comparable) = some true) (he : P.underlying e = some (.int k'))
    (hx : evo env x = some (.iface e (.int k m))) (hy : evo env y = some (.iface e (.int k n))) (hb : b = .eql ∧ r = (m == n) ∨ b = .neq ∧ r = !(m == n)) (h : K (.bool r) σ) : OpWp P rd o env σ K := by
  refine OpWp.of_run (by rcases hb with ⟨rfl, _⟩ | ⟨rfl, _⟩ <;> simp [ho]) fun g w a hr hop => ?_
  obtain ⟨u, e1, h1⟩ := (hop x (by simp [ho, Op.operands]) _ hx).inv_iface
  obtain ⟨u2, e2, h2⟩ := (hop y (by simp [ho, Op.operands]) _ hy).inv_iface
  have h1 := h1.inv_int
  have h2 := h2.inv_int
  subst h1 h2
  refine ⟨.bool r, w, ?_, .same h hr (.bool _)⟩
  obtain ⟨i, hi, hcmp⟩ := Option.map_eq_some_iff.1 hc
  have h9 : ∀ d : Nat, (Op.equalIn (d + 2) t (.iface e (.int k m)) (.iface e (.int k n))).run P w = .ok (m == n) w := fun d => by
    simp [Op.equalIn, run_underlying hu, run_underlying he, typeInfo, hi, hcmp]
  rcases hb with ⟨rfl, rfl⟩ | ⟨rfl, rfl⟩ <;> (simp only [execOp, ho, e1, e2, Sem.run_bind, Sem.run_pure]; simp [eqGuard, binOp, Op.equal, Op.maxDepth, h9 9998])
theorem op_nilif {b : BinOp} {r : Bool} {t e t' : TypeId} {x y : Operand} {m : MV} {ms : Array (String × TypeId)} (ho : o.op = .binOp b t x y t') (hu : P.underlying t = some (.interface ms)) (hx : evo env x = some .iface0) (hy : evo env y = some (.iface e m)) (hb : b = .eql ∧ r = false ∨ b = .neq ∧ r = true) (h : K (.bool r) σ) : OpWp P rd o env σ K := by
  refine OpWp.of_run (by rcases hb with ⟨rfl, rfl⟩ | ⟨rfl, rfl⟩ <;> simp [ho]) fun g w a hr hop => ?_
  obtain ⟨u, e1, _⟩ := (hop y (by simp [ho, Op.operands]) _ hy).inv_iface
  have e2 := (hop x (by simp [ho, Op.operands]) _ hx).inv_iface0
  refine ⟨.bool r, w, ?_, .same h hr (.bool _)⟩
  have h9 : ∀ d : Nat, (Op.equalIn (d + 1) t .nilIface (.iface e u)).run P w = .ok false w := fun d => by simp [Op.equalIn, run_underlying hu]
  rcases hb with ⟨rfl, rfl⟩ | ⟨rfl, rfl⟩ <;> (simp only [execOp, ho, e1, e2, Sem.run_bind, Sem.run_pure]; simp [eqGuard, binOp, Op.equal, Op.maxDepth, h9 9999])
end
end Go.MV
end
section
set_option linter.unusedVariables false
set_option linter.unusedSimpArgs false
set_option maxRecDepth 20000
set_option maxHeartbeats 400000
namespace Go.Proofs.YtlooahbfpmigfaaGreat
open Go Go.MV
theorem joinE {s : Sch} {a b : Val} {e : Int} (h : joinVF s a b = .error e) : e = 13 ∨ e = 14 := by
 unfold joinVF at h
 split at h
 ·split at h
  ·cases h
  ·injection h with h; exact .inl h.symm
 ·injection h with h; exact .inr h.symm
theorem joinR (s : Sch) (a b : Val) : (∃ n m t c w, joinVF s a b = .ok (.mk n m t c w)) ∨ joinVF s a b = .error 13 ∨ joinVF s a b = .error 14 := by
 cases h : joinVF s a b with
 | ok v => obtain ⟨n, m, t, c, w⟩ := v; exact .inl ⟨_, _, _, _, _, rfl⟩
 | error e =>
  rcases joinE h with rfl | rfl
  ·exact .inr (.inl rfl)
  ·exact .inr (.inr rfl)
noncomputable def leqVF (s : Sch) (a b : Val) : Except Int Bool := match joinVF s a b with | .ok j => .ok (decide (j = b)) | .error e => if e = 14 then .error 14 else .ok false
noncomputable def cmpVF (s : Sch) (a b : Val) : Except Int Int := match leqVF s a b with
 | .error e => .error e
 | .ok l => match leqVF s b a with
  | .error e => .error e
  | .ok m => .ok (if l then (if m then 0 else -1) else (if m then 1 else 2))
def encL (r : Except Int Bool) : MV := .tup [.bool (match r with | .error _ => false | .ok v => v), match r with | .error n => encErr n | .ok _ => .iface0]
def encK (r : Except Int Int) : MV := .tup [.int .i64 (match r with | .error _ => 0 | .ok v => v), match r with | .error n => encErr n | .ok _ => .iface0]
theorem leq_ok {s : Sch} {a b j : Val} (h : joinVF s a b = .ok j) : leqVF s a b = .ok (decide (j = b)) := by unfold leqVF; rw [h]
theorem leq_13 {s : Sch} {a b : Val} (h : joinVF s a b = .error 13) : leqVF s a b = .ok false := by unfold leqVF; rw [h]; rfl
theorem leq_14 {s : Sch} {a b : Val} (h : joinVF s a b = .error 14) : leqVF s a b = .error 14 := by unfold leqVF; rw [h]; rfl
theorem cmp_e {s : Sch} {a b : Val} {e : Int} (h : leqVF s a b = .error e) : cmpVF s a b = .error e := by unfold cmpVF; rw [h]
theorem cmp_e2 {s : Sch} {a b : Val} {l : Bool} {e : Int} (h : leqVF s a b = .ok l) (h2 : leqVF s b a = .error e) : cmpVF s a b = .error e := by unfold cmpVF; rw [h, h2]
theorem cmp_ok {s : Sch} {a b : Val} {l m : Bool} (h : leqVF s a b = .ok l) (h2 : leqVF s b a = .ok m) : cmpVF s a b = .ok (if l then (if m then 0 else -1) else (if m then 1 else 2)) := by unfold cmpVF; rw [h, h2]
theorem exE {α : Type} (r : Except Int α) : (∃ e, r = .error e) ∨ ∃ v, r = .ok v := by
 cases r with
 | error e => exact .inl ⟨e, rfl⟩
 | ok v => exact .inr ⟨v, rfl⟩
theorem okCmp : (Tryz.prog.info? 62).map (·.comparable) = some true := by kernel_rfl
theorem pick3 (l m : Bool) : (if l then (if m then (0 : Int) else -1) else (if m then 1 else 2)) = bif l then (bif m then 0 else -1) else (bif m then 1 else 2) := by cases l <;> cases m <;> rfl
theorem pickI_spec (f : Bool) (a b : Int) (S : MS) : MCalls Tryz.prog 43 [.bool f, .int .i64 a, .int .i64 b] S fun v σ' => v = .int .i64 (bif f then a else b) ∧ σ' = S := by
 refine mcalls_body Tryz.func43 rfl Tryz.ntmps43 (Nat.le_of_ble_eq_true rfl) ?_
 refine mwp_seq <| qR rfl <| qA rfl rfl rfl <| qN <| mwp_seq <| mwp_seq <| qR rfl <| qM rfl rfl rfl <| qN ?_
 refine mwp_cond_split rfl (fun h7 => ?_) (fun h7 => ?_)
 ·
  refine mwp_seq <| qR rfl <| qM rfl rfl rfl <| qA rfl rfl rfl <| qN <| mwp_ret ?_
  exact ret_tmp (.inr rfl) Tryz.results43 rfl (.of_eq (by rw [h7]; rfl)) (.int _ _) ⟨rfl, rfl⟩
 ·
  refine mwp_skip <| mwp_seq <| qR rfl <| qM rfl rfl rfl <| qA rfl rfl rfl <| qN <| mwp_ret ?_
  exact ret_tmp (.inr rfl) Tryz.results43 rfl (.of_eq (by rw [h7]; rfl)) (.int _ _) ⟨rfl, rfl⟩
theorem leq_spec (s : Sch) (a b : Val) (ha : okV a) (hb : okV b) (S : MS) : MCalls Tryz.prog 19 [encS s, encV a, encV b] S fun v σ' => v = encL (leqVF s a b) ∧ σ' = S := by
 obtain ⟨k, ins⟩ := s
 obtain ⟨n1, m1, s1, c1, w1⟩ := a
 obtain ⟨n2, m2, s2, c2, w2⟩ := b
 refine mcalls_body Tryz.func19 rfl Tryz.ntmps19 (Nat.le_of_ble_eq_true rfl) ?_
 refine mwp_seq <| qR rfl <| qB rfl rfl rfl rfl rfl <| qB rfl rfl rfl rfl rfl <| qB rfl rfl rfl rfl rfl <| qA rfl rfl rfl <| qA rfl rfl rfl <| qN <| mwp_seq ?_
 have hof := join_spec (.mk k ins) (.mk n1 m1 s1 c1 w1) (.mk n2 m2 s2 c2 w2) ha hb
 rcases joinR (.mk k ins) (.mk n1 m1 s1 c1 w1) (.mk n2 m2 s2 c2 w2) with ⟨n3, m3, s3, c3, w3, hj⟩ | hj | hj <;> rw [hj] at hof
 ·
  refine qR rfl <| qL rfl rfl rfl rfl ta37 rfl <| qL rfl rfl rfl rfl ta29 rfl <| qL rfl rfl rfl rfl ta29 rfl ?_
  refine wOps_op rfl (op_call rfl rfl rfl co44 ((hof _).mono ?_))
  rintro _ _ ⟨rfl, rfl⟩
  refine qM rfl rfl rfl <| qO rfl <| op_extract rfl rfl rfl <| qO rfl <| op_extract rfl rfl rfl <| qO rfl <| op_alloc' rfl zm29 rfl rfl <| qO rfl <| op_store' rfl rfl rfl rfl sz29 rfl rfl (Nat.le_of_ble_eq_true rfl) rfl <| qA rfl rfl rfl <| qN <| mwp_seq <| mwp_seq <| qR rfl <| qM rfl rfl rfl <| qN <| mwp_block <| mwp_seq <| qR rfl <| qO rfl <| op_makeInterface rfl rfl Tryz.underlying62 (by simp) ?_
  refine qO rfl <| op_nilif rfl Tryz.underlying32 rfl rfl (.inl ⟨rfl, rfl⟩) <| qA rfl rfl rfl <| qN <| mwp_cond_f rfl (rfl) <| mwp_seq <| qR rfl <| qO rfl <| op_if0 rfl Tryz.underlying32 rfl rfl (.inl ⟨rfl, rfl⟩) <| qA rfl rfl rfl <| qN <| mwp_cond_t rfl (rfl) <| mwp_seq <| qR rfl <| qL rfl rfl rfl rfl ta29 rfl <| qL rfl rfl rfl rfl ta29 rfl ?_
  refine wOps_op rfl (op_call rfl rfl rfl co45 ((valSame_spec (.mk n3 m3 s3 c3 w3) (.mk n2 m2 s2 c2 w2) _).mono ?_))
  rintro _ _ ⟨rfl, rfl⟩
  refine qA rfl rfl rfl <| qA rfl rfl rfl <| qN <| mwp_ret ?_
  exact ret_tmp2 (.inr rfl) Tryz.results19 rfl rfl (.refl _) (.refl _) (.bool _) (.iface0) ⟨by rw [leq_ok hj]; rfl, rfl⟩
 ·
  refine qR rfl <| qL rfl rfl rfl rfl ta37 rfl <| qL rfl rfl rfl rfl ta29 rfl <| qL rfl rfl rfl rfl ta29 rfl ?_
  refine wOps_op rfl (op_call rfl rfl rfl co44 ((hof _).mono ?_))
  rintro _ _ ⟨rfl, rfl⟩
  refine qM rfl rfl rfl <| qO rfl <| op_extract rfl rfl rfl <| qO rfl <| op_extract rfl rfl rfl <| qO rfl <| op_alloc' rfl zm29 rfl rfl <| qO rfl <| op_store' rfl rfl rfl rfl sz29 rfl rfl (Nat.le_of_ble_eq_true rfl) rfl <| qA rfl rfl rfl <| qN <| mwp_seq <| mwp_seq <| qR rfl <| qM rfl rfl rfl <| qN <| mwp_block <| mwp_seq <| qR rfl <| qO rfl <| op_makeInterface rfl rfl Tryz.underlying62 (by simp) ?_
  refine qO rfl <| op_ifint rfl Tryz.underlying32 okCmp Tryz.underlying62 rfl rfl (.inl ⟨rfl, rfl⟩) <| qA rfl rfl rfl <| qN <| mwp_cond_f rfl (rfl) <| mwp_seq <| qR rfl <| qO rfl <| op_ifnil rfl Tryz.underlying32 rfl rfl (.inl ⟨rfl, rfl⟩) <| qA rfl rfl rfl <| qN <| mwp_cond_f rfl (rfl) <| mwp_skip <| mwp_seq <| qR rfl <| qA rfl rfl rfl <| qA rfl rfl rfl <| qN <| mwp_ret ?_
  exact ret_tmp2 (.inr rfl) Tryz.results19 rfl rfl (.refl _) (.refl _) (.bool _) (.iface0) ⟨by rw [leq_13 hj]; rfl, rfl⟩
 ·
  refine qR rfl <| qL rfl rfl rfl rfl ta37 rfl <| qL rfl rfl rfl rfl ta29 rfl <| qL rfl rfl rfl rfl ta29 rfl ?_
  refine wOps_op rfl (op_call rfl rfl rfl co44 ((hof _).mono ?_))
  rintro _ _ ⟨rfl, rfl⟩
  refine qM rfl rfl rfl <| qO rfl <| op_extract rfl rfl rfl <| qO rfl <| op_extract rfl rfl rfl <| qO rfl <| op_alloc' rfl zm29 rfl rfl <| qO rfl <| op_store' rfl rfl rfl rfl sz29 rfl rfl (Nat.le_of_ble_eq_true rfl) rfl <| qA rfl rfl rfl <| qN <| mwp_seq <| mwp_seq <| qR rfl <| qM rfl rfl rfl <| qN <| mwp_block <| mwp_seq <| qR rfl <| qO rfl <| op_makeInterface rfl rfl Tryz.underlying62 (by simp) ?_
  refine qO rfl <| op_ifint rfl Tryz.underlying32 okCmp Tryz.underlying62 rfl rfl (.inl ⟨rfl, rfl⟩) <| qA rfl rfl rfl <| qN <| mwp_cond_t rfl (rfl) <| mwp_seq <| qR rfl <| qO rfl <| op_makeInterface rfl rfl Tryz.underlying62 (by simp) ?_
  refine qA rfl rfl rfl <| qA rfl rfl rfl <| qN <| mwp_ret ?_
  exact ret_tmp2 (.inr rfl) Tryz.results19 rfl rfl (.refl _) (.refl _) (.bool _) (.iface _ _ (.int _ _)) ⟨by rw [leq_14 hj]; rfl, rfl⟩
theorem cmpV_spec (s : Sch) (a b : Val) (ha : okV a) (hb : okV b) (S : MS) : MCalls Tryz.prog 17 [encS s, encV a, encV b] S fun v σ' => v = encK (cmpVF s a b) ∧ σ' = S := by
 obtain ⟨k, ins⟩ := s
 obtain ⟨n1, m1, s1, c1, w1⟩ := a
 obtain ⟨n2, m2, s2, c2, w2⟩ := b
 refine mcalls_body Tryz.func17 rfl Tryz.ntmps17 (Nat.le_of_ble_eq_true rfl) ?_
 refine mwp_seq <| qR rfl <| qB rfl rfl rfl rfl rfl <| qB rfl rfl rfl rfl rfl <| qB rfl rfl rfl rfl rfl <| qA rfl rfl rfl <| qA rfl rfl rfl <| qN <| mwp_seq ?_
 have hof1 := leq_spec (.mk k ins) (.mk n1 m1 s1 c1 w1) (.mk n2 m2 s2 c2 w2) ha hb
 have hof2 := leq_spec (.mk k ins) (.mk n2 m2 s2 c2 w2) (.mk n1 m1 s1 c1 w1) hb ha
 rcases exE (leqVF (.mk k ins) (.mk n1 m1 s1 c1 w1) (.mk n2 m2 s2 c2 w2)) with ⟨e, hl⟩ | ⟨l, hl⟩ <;> rw [hl] at hof1
 rotate_left
 rcases exE (leqVF (.mk k ins) (.mk n2 m2 s2 c2 w2) (.mk n1 m1 s1 c1 w1)) with ⟨e, hm⟩ | ⟨m, hm⟩ <;> rw [hm] at hof2
 rotate_right
 ·
  refine qR rfl <| qL rfl rfl rfl rfl ta37 rfl <| qL rfl rfl rfl rfl ta29 rfl <| qL rfl rfl rfl rfl ta29 rfl ?_
  refine wOps_op rfl (op_call rfl rfl rfl co19 ((hof1 _).mono ?_))
  rintro _ _ ⟨rfl, rfl⟩
  refine qM rfl rfl rfl <| qO rfl <| op_extract rfl rfl rfl <| qO rfl <| op_extract rfl rfl rfl <| qA rfl rfl rfl <| qA rfl rfl rfl <| qN <| mwp_seq <| mwp_seq <| qR rfl <| qM rfl rfl rfl <| qO rfl <| op_ifnil rfl Tryz.underlying32 rfl rfl (.inr ⟨rfl, rfl⟩) <| qN <| mwp_cond_t rfl (rfl) <| mwp_seq <| qR rfl <| qM rfl rfl rfl <| qA rfl rfl rfl <| qA rfl rfl rfl <| qN <| mwp_ret ?_
  exact ret_tmp2 (.inr rfl) Tryz.results17 rfl rfl (.refl _) (.refl _) (.int _ _) (.iface _ _ (.int _ _)) ⟨by rw [cmp_e hl]; rfl, rfl⟩
 ·
  refine qR rfl <| qL rfl rfl rfl rfl ta37 rfl <| qL rfl rfl rfl rfl ta29 rfl <| qL rfl rfl rfl rfl ta29 rfl ?_
  refine wOps_op rfl (op_call rfl rfl rfl co19 ((hof1 _).mono ?_))
  rintro _ _ ⟨rfl, rfl⟩
  refine qM rfl rfl rfl <| qO rfl <| op_extract rfl rfl rfl <| qO rfl <| op_extract rfl rfl rfl <| qA rfl rfl rfl <| qA rfl rfl rfl <| qN <| mwp_seq <| mwp_seq <| qR rfl <| qM rfl rfl rfl <| qO rfl <| op_if0 rfl Tryz.underlying32 rfl rfl (.inr ⟨rfl, rfl⟩) <| qN <| mwp_cond_f rfl (rfl) <| mwp_skip <| mwp_seq <| qR rfl <| qL rfl rfl rfl rfl ta37 rfl <| qL rfl rfl rfl rfl ta29 rfl <| qL rfl rfl rfl rfl ta29 rfl ?_
  refine wOps_op rfl (op_call rfl rfl rfl co19 ((hof2 _).mono ?_))
  rintro _ _ ⟨rfl, rfl⟩
  refine qM rfl rfl rfl <| qO rfl <| op_extract rfl rfl rfl <| qO rfl <| op_extract rfl rfl rfl <| qA rfl rfl rfl <| qA rfl rfl rfl <| qN <| mwp_seq <| mwp_seq <| qR rfl <| qM rfl rfl rfl <| qO rfl <| op_ifnil rfl Tryz.underlying32 rfl rfl (.inr ⟨rfl, rfl⟩) <| qN <| mwp_cond_t rfl (rfl) <| mwp_seq <| qR rfl <| qM rfl rfl rfl <| qA rfl rfl rfl <| qA rfl rfl rfl <| qN <| mwp_ret ?_
  exact ret_tmp2 (.inr rfl) Tryz.results17 rfl rfl (.refl _) (.refl _) (.int _ _) (.iface _ _ (.int _ _)) ⟨by rw [cmp_e2 hl hm]; rfl, rfl⟩
 ·
  refine qR rfl <| qL rfl rfl rfl rfl ta37 rfl <| qL rfl rfl rfl rfl ta29 rfl <| qL rfl rfl rfl rfl ta29 rfl ?_
  refine wOps_op rfl (op_call rfl rfl rfl co19 ((hof1 _).mono ?_))
  rintro _ _ ⟨rfl, rfl⟩
  refine qM rfl rfl rfl <| qO rfl <| op_extract rfl rfl rfl <| qO rfl <| op_extract rfl rfl rfl <| qA rfl rfl rfl <| qA rfl rfl rfl <| qN <| mwp_seq <| mwp_seq <| qR rfl <| qM rfl rfl rfl <| qO rfl <| op_if0 rfl Tryz.underlying32 rfl rfl (.inr ⟨rfl, rfl⟩) <| qN <| mwp_cond_f rfl (rfl) <| mwp_skip <| mwp_seq <| qR rfl <| qL rfl rfl rfl rfl ta37 rfl <| qL rfl rfl rfl rfl ta29 rfl <| qL rfl rfl rfl rfl ta29 rfl ?_
  refine wOps_op rfl (op_call rfl rfl rfl co19 ((hof2 _).mono ?_))
  rintro _ _ ⟨rfl, rfl⟩
  refine qM rfl rfl rfl <| qO rfl <| op_extract rfl rfl rfl <| qO rfl <| op_extract rfl rfl rfl <| qA rfl rfl rfl <| qA rfl rfl rfl <| qN <| mwp_seq <| mwp_seq <| qR rfl <| qM rfl rfl rfl <| qO rfl <| op_if0 rfl Tryz.underlying32 rfl rfl (.inr ⟨rfl, rfl⟩) <| qN <| mwp_cond_f rfl (rfl) <| mwp_skip <| mwp_seq <| qR rfl <| qM rfl rfl rfl <| qM rfl rfl rfl ?_
  refine wOps_op rfl (op_call rfl rfl rfl co43 ((pickI_spec m 0 (-1) _).mono ?_))
  rintro _ _ ⟨rfl, rfl⟩
  refine qM rfl rfl rfl ?_
  refine wOps_op rfl (op_call rfl rfl rfl co43 ((pickI_spec m 1 2 _).mono ?_))
  rintro _ _ ⟨rfl, rfl⟩
  refine wOps_op rfl (op_call rfl rfl rfl co43 ((pickI_spec l _ _ _).mono ?_))
  rintro _ _ ⟨rfl, rfl⟩
  refine qA rfl rfl rfl <| qA rfl rfl rfl <| qN <| mwp_ret ?_
  exact ret_tmp2 (.inr rfl) Tryz.results17 rfl rfl (.refl _) (.refl _) (.int _ _) (.iface0) ⟨by rw [cmp_ok hl hm, pick3]; rfl, rfl⟩
end Go.Proofs.YtlooahbfpmigfaaGreat
end
section
set_option linter.unusedVariables false
set_option linter.unusedSimpArgs false
namespace Go.MV
open Go Go.RowKit
section
variable {P : Program} {rd : Option Nat} {o : Oper} {env : Env} {σ : MS} {K : MV → MS → Prop}
end
end Go.MV
end
section
set_option linter.unusedVariables false
set_option linter.unusedSimpArgs false
set_option maxRecDepth 20000
set_option maxHeartbeats 400000
namespace Go.Proofs.YtlooahbfpmigfaaGreat
open Go Go.MV
theorem join_ok_of {s : Sch} {a b v : Val} (hs : isF 16 s = true) (ha : isVF s a = true) (hb : isVF s b = true) (h : bothF s a b = some v) : joinVF s a b = .ok v := by
 unfold joinVF
 rw [if_pos ⟨by rw [hs, ha]; rfl, by rw [hs, hb]; rfl⟩, h]
theorem join_err_b {s : Sch} {a b : Val} (hb : isVF s b = false) : joinVF s a b = .error 14 := join_err fun h => by rw [hb, Bool.and_false] at h; exact absurd h.2 (by decide)
theorem okV_num {a : Int} (h : 0 ≤ a ∧ a < 18446744073709551616) : okV (.mk a 0 [] [] []) := by simp [okV, okVs]; omega
def kA : Val := .mk 0 0 [[97]] [] []
def kB_ : Val := .mk 0 0 [[98]] [] []
def kAB : Val := .mk 0 0 [[97], [98]] [] []
def kX : Val := .mk 0 0 [] [[(1, 1)]] [.mk 9 0 [] [] []]
def kY : Val := .mk 0 0 [] [[(1, 2)]] [.mk 3 0 [] [] []]
theorem ok_kn : okV kA ∧ okV kB_ ∧ okV kAB ∧ okV kX ∧ okV kY := by
 refine ⟨?_, ?_, ?_, ?_, ?_⟩ <;> simp [kA, kB_, kAB, kX, kY, okV, okVs, okTk]
end Go.Proofs.YtlooahbfpmigfaaGreat
end
section
set_option linter.unusedVariables false
set_option linter.unusedSimpArgs false
namespace Go.Proofs.YtlooahbfpmigfaaGreat
open Go Go.MV Go.RowKit
abbrev ltB (a b : Bs) : Prop := Op.bytesLess a b = true
theorem ltB_cons {x y : UInt8} {a b : Bs} : ltB (x :: a) (y :: b) ↔ x < y ∨ (x = y ∧ ltB a b) := by
  unfold ltB
  simp [Op.bytesLess]
theorem ltB_irrefl : ∀ a : Bs, ¬ ltB a a
  | [] => by simp [ltB, Op.bytesLess]
  | x :: a => by
    rw [ltB_cons]
    rintro (h | ⟨_, h⟩)
    · exact UInt8.lt_irrefl _ h
    · exact ltB_irrefl a h
theorem ltB_trans : ∀ {a b c : Bs}, ltB a b → ltB b c → ltB a c
  | _, [], _, h, _ => by simp [ltB, Op.bytesLess] at h
  | _, _ :: _, [], _, h => by simp [ltB, Op.bytesLess] at h
  | [], _ :: _, _ :: _, _, _ => by simp [ltB, Op.bytesLess]
  | x :: a, y :: b, z :: c, h1, h2 => by
    rw [ltB_cons] at h1 h2 ⊢
    rcases h1 with h1 | ⟨rfl, h1⟩
    · rcases h2 with h2 | ⟨rfl, h2⟩
      · exact .inl (UInt8.lt_trans h1 h2)
      · exact .inl h1
    · rcases h2 with h2 | ⟨rfl, h2⟩
      · exact .inl h2
      · exact .inr ⟨rfl, ltB_trans h1 h2⟩
theorem ltB_total : ∀ a b : Bs, ltB a b ∨ a = b ∨ ltB b a
  | [], [] => .inr (.inl rfl)
  | [], _ :: _ => .inl (by simp [ltB, Op.bytesLess])
  | _ :: _, [] => .inr (.inr (by simp [ltB, Op.bytesLess]))
  | x :: a, y :: b => by
    rw [ltB_cons, ltB_cons]
    by_cases h1 : x < y
    · exact .inl (.inl h1)
    · by_cases h2 : y < x
      · exact .inr (.inr (.inl h2))
      · have e : x = y := UInt8.le_antisymm (UInt8.not_lt.1 h2) (UInt8.not_lt.1 h1)
        subst e
        rcases ltB_total a b with h | rfl | h
        · exact .inl (.inr ⟨rfl, h⟩)
        · exact .inr (.inl rfl)
        · exact .inr (.inr (.inr ⟨rfl, h⟩))
theorem ltB_asymm {a b : Bs} (h : ltB a b) : ¬ ltB b a := fun h2 => ltB_irrefl _ (ltB_trans h h2)
def Up (l : List Bs) : Prop := l.Pairwise ltB
theorem rises_up : ∀ l : List Bs, risesF l = true ↔ Up l
  | [] => by simp [risesF, Up]
  | [x] => by simp [risesF, Up]
  | x :: y :: l => by
    rw [risesF, Bool.and_eq_true, rises_up (y :: l)]
    unfold Up
    rw [List.pairwise_cons (a := x)]
    constructor
    · rintro ⟨h1, h2⟩
      refine ⟨fun z hz => ?_, h2⟩
      rcases List.mem_cons.1 hz with rfl | hz
      · exact h1
      · exact ltB_trans h1 ((List.pairwise_cons.1 h2).1 z hz)
    · rintro ⟨h1, h2⟩
      exact ⟨h1 y (.head _), h2⟩
theorem up_cons {x : Bs} {l : List Bs} : Up (x :: l) ↔ (∀ y ∈ l, ltB x y) ∧ Up l := List.pairwise_cons
theorem up_ext : ∀ {a b : List Bs}, Up a → Up b → (∀ x, x ∈ a ↔ x ∈ b) → a = b
  | [], [], _, _, _ => rfl
  | [], y :: b, _, _, h => absurd ((h y).2 (.head _)) (by simp)
  | x :: a, [], _, _, h => absurd ((h x).1 (.head _)) (by simp)
  | x :: a, y :: b, ha, hb, h => by
    have ha' := up_cons.1 ha
    have hb' := up_cons.1 hb
    have e : x = y := by
      rcases List.mem_cons.1 ((h x).1 (.head _)) with e | hx
      · exact e
      · rcases List.mem_cons.1 ((h y).2 (.head _)) with e | hy
        · exact e.symm
        · exact absurd (hb'.1 x hx) (ltB_asymm (ha'.1 y hy))
    subst e
    congr 1
    refine up_ext ha'.2 hb'.2 fun z => ⟨fun hz => ?_, fun hz => ?_⟩
    · rcases List.mem_cons.1 ((h z).1 (.tail _ hz)) with rfl | hz2
      · exact absurd (ha'.1 _ hz) (ltB_irrefl _)
      · exact hz2
    · rcases List.mem_cons.1 ((h z).2 (.tail _ hz)) with rfl | hz2
      · exact absurd (hb'.1 _ hz) (ltB_irrefl _)
      · exact hz2
theorem mem_both : ∀ (a b : List Bs) (z : Bs), z ∈ bothX a b ↔ z ∈ a ∨ z ∈ b := by
  intro a b
  induction a, b using bothX.induct with
  | case1 => simp [bothX]
  | case2 x a ih => intro z; rw [bothX, List.mem_cons, ih]; simp
  | case3 y b ih => intro z; rw [bothX, List.mem_cons, ih]; simp
  | case4 x a y b h ih => intro z; rw [bothX, if_pos h, List.mem_cons, ih]; simp [or_assoc]
  | case5 x a y b h h2 ih => intro z; rw [bothX, if_neg h, if_pos h2, List.mem_cons, ih]; simp only [List.mem_cons]; exact or_left_comm
  | case6 x a y b h h2 ih =>
    intro z
    have e : x = y := by
      rcases ltB_total x y with h3 | h3 | h3
      · exact absurd h3 h
      · exact h3
      · exact absurd h3 h2
    subst e
    rw [bothX, if_neg h, if_neg h2, List.mem_cons, ih]
    simp only [List.mem_cons]
    constructor
    · rintro (h | h | h)
      · exact .inl (.inl h)
      · exact .inl (.inr h)
      · exact .inr (.inr h)
    · rintro ((h | h) | (h | h))
      · exact .inl h
      · exact .inr (.inl h)
      · exact .inl h
      · exact .inr (.inr h)
theorem up_both : ∀ (a b : List Bs), Up a → Up b → Up (bothX a b) := by
  intro a b
  induction a, b using bothX.induct with
  | case1 => intro _ _; simp [bothX, Up]
  | case2 x a ih =>
    intro ha hb
    rw [bothX]
    refine up_cons.2 ⟨fun z hz => ?_, ih (up_cons.1 ha).2 hb⟩
    rw [mem_both] at hz
    exact (up_cons.1 ha).1 z (by simpa using hz)
  | case3 y b ih =>
    intro ha hb
    rw [bothX]
    refine up_cons.2 ⟨fun z hz => ?_, ih ha (up_cons.1 hb).2⟩
    rw [mem_both] at hz
    exact (up_cons.1 hb).1 z (by simpa using hz)
  | case4 x a y b h ih =>
    intro ha hb
    rw [bothX, if_pos h]
    refine up_cons.2 ⟨fun z hz => ?_, ih (up_cons.1 ha).2 hb⟩
    rw [mem_both] at hz
    rcases hz with hz | hz
    · exact (up_cons.1 ha).1 z hz
    · rcases List.mem_cons.1 hz with rfl | hz
      · exact h
      · exact ltB_trans h ((up_cons.1 hb).1 z hz)
  | case5 x a y b h h2 ih =>
    intro ha hb
    rw [bothX, if_neg h, if_pos h2]
    refine up_cons.2 ⟨fun z hz => ?_, ih ha (up_cons.1 hb).2⟩
    rw [mem_both] at hz
    rcases hz with hz | hz
    · rcases List.mem_cons.1 hz with rfl | hz
      · exact h2
      · exact ltB_trans h2 ((up_cons.1 ha).1 z hz)
    · exact (up_cons.1 hb).1 z hz
  | case6 x a y b h h2 ih =>
    intro ha hb
    have e : x = y := by
      rcases ltB_total x y with h3 | h3 | h3
      · exact absurd h3 h
      · exact h3
      · exact absurd h3 h2
    subst e
    rw [bothX, if_neg h, if_neg h2]
    refine up_cons.2 ⟨fun z hz => ?_, ih (up_cons.1 ha).2 (up_cons.1 hb).2⟩
    rw [mem_both] at hz
    rcases hz with hz | hz
    · exact (up_cons.1 ha).1 z hz
    · exact (up_cons.1 hb).1 z hz
end Go.Proofs.YtlooahbfpmigfaaGreat
end
section
set_option linter.unusedVariables false
set_option linter.unusedSimpArgs false
set_option maxRecDepth 20000
set_option maxHeartbeats 400000
namespace Go.Proofs.YtlooahbfpmigfaaGreat
open Go Go.MV
theorem is_set (A : List Bs) : isVF (.mk 3 []) (.mk 0 0 A [] []) = isRowF A := by
 rw [isVF_mk 3]
 simp [bareF, numsK, textsK, clocksK, valuesK, Val.nv, Val.mv, Val.sv, Val.cv, Val.vv]
theorem both_set (A B : List Bs) : bothF (.mk 3 []) (.mk 0 0 A [] []) (.mk 0 0 B [] []) = if 40 < (bothX A B).length then none else some (.mk 0 0 (bothX A B) [] []) := by
 rw [bothF_mk, show bothB 3 (bothL []) (.mk 0 0 A [] []) (.mk 0 0 B [] []) = some (.mk 0 0 (bothX A B) [] []) from rfl]
 have hl : largeF (.mk 0 0 (bothX A B) [] []) = decide (40 < (bothX A B).length) := by rw [large_eq]; simp
 by_cases h : 40 < (bothX A B).length
 ·rw [cap_t (by rw [hl]; exact decide_eq_true h), if_pos h]
 ·rw [cap_f (by rw [hl]; exact decide_eq_false h), if_neg h]
theorem join_set {A B : List Bs} (ha : isRowF A = true) (hb : isRowF B = true) : joinVF (.mk 3 []) (.mk 0 0 A [] []) (.mk 0 0 B [] []) = if 40 < (bothX A B).length then .error 13 else .ok (.mk 0 0 (bothX A B) [] []) := by
 unfold joinVF
 rw [if_pos ⟨by rw [is_set, ha]; rfl, by rw [is_set, hb]; rfl⟩, both_set]
 by_cases h : 40 < (bothX A B).length
 ·rw [if_pos h, if_pos h]
 ·rw [if_neg h, if_neg h]
end Go.Proofs.YtlooahbfpmigfaaGreat
end
section
set_option linter.unusedVariables false
set_option linter.unusedSimpArgs false
namespace Go.Proofs.YtlooahbfpmigfaaGreat
open Go Go.MV Go.RowKit
section
variable {κ : Type} {cmp : κ → κ → Int}
structure OrdK (cmp : κ → κ → Int) : Prop where
  irr : ∀ a, ¬ cmp a a < 0
  tr : ∀ a b c, cmp a b < 0 → cmp b c < 0 → cmp a c < 0
  tot : ∀ a b, ¬ cmp a b < 0 → ¬ cmp b a < 0 → a = b
open Classical in
noncomputable def look (l : List (κ × Val)) (k : κ) : Option Val := match l with
  | [] => none
  | e :: l => if e.1 = k then some e.2 else look l k
open Classical in
theorem look_cons (e : κ × Val) (l : List (κ × Val)) (k : κ) : look (e :: l) k = if e.1 = k then some e.2 else look l k := rfl
def SrtK (cmp : κ → κ → Int) (l : List (κ × Val)) : Prop := l.Pairwise fun x y => cmp x.1 y.1 < 0
def HasK (l : List (κ × Val)) (k : κ) : Prop := ∃ e ∈ l, e.1 = k
theorem look_none {l : List (κ × Val)} {k : κ} (h : ¬ HasK l k) : look l k = none := by
  induction l with
  | nil => rfl
  | cons e l ih =>
    rw [look, if_neg (fun he => h ⟨e, .head _, he⟩)]
    exact ih fun ⟨x, hx, e2⟩ => h ⟨x, .tail _ hx, e2⟩
theorem srt_cons {e : κ × Val} {l : List (κ × Val)} : SrtK cmp (e :: l) ↔ (∀ y ∈ l, cmp e.1 y.1 < 0) ∧ SrtK cmp l := List.pairwise_cons
theorem not_has (ho : OrdK cmp) {k : κ} {l : List (κ × Val)} (h : ∀ y ∈ l, cmp k y.1 < 0) : ¬ HasK l k := fun ⟨e, he, e2⟩ => ho.irr k (by have := h e he; rwa [e2] at this)
theorem mem_look (ho : OrdK cmp) {l : List (κ × Val)} (hs : SrtK cmp l) {e : κ × Val} (h : e ∈ l) : look l e.1 = some e.2 := by
  induction l with
  | nil => cases h
  | cons x l ih =>
    have hs' := srt_cons.1 hs
    rw [look]
    rcases List.mem_cons.1 h with rfl | h
    · rw [if_pos rfl]
    · rw [if_neg]
      · exact ih hs'.2 h
      · intro e2
        have := hs'.1 e h
        rw [e2] at this
        exact ho.irr _ this
def fillE (f : Val → Val → Val) (e : Ent κ) : Val := match e.2.2 with | none => e.2.1 | some w => f e.2.1 w
def mergeG (cmp : κ → κ → Int) (f : Val → Val → Val) (a b : List (κ × Val)) : List (κ × Val) := (mergeE cmp a b).map fun e => (e.1, fillE f e)
def comb (f : Val → Val → Val) : Option Val → Option Val → Option Val
  | none, y => y
  | x, none => x
  | some x, some y => some (f x y)
theorem comb_none (f : Val → Val → Val) (x : Option Val) : comb f x none = x := by cases x <;> rfl
theorem merge_has {f : Val → Val → Val} (ho : OrdK cmp) (a b : List (κ × Val)) (k : κ) : HasK (mergeG cmp f a b) k ↔ HasK a k ∨ HasK b k := by
  unfold HasK mergeG
  simp only [List.mem_map]
  constructor
  · rintro ⟨e, ⟨x, hx, rfl⟩, rfl⟩
    rcases (mergeE_mem cmp a b x hx).1 with h | h
    · exact .inl ⟨_, h, rfl⟩
    · exact .inr ⟨_, h, rfl⟩
  · intro h
    suffices hs : ∃ x ∈ mergeE cmp a b, x.1 = k by
      obtain ⟨x, hx, e⟩ := hs
      exact ⟨_, ⟨x, hx, rfl⟩, e⟩
    revert h
    induction a, b using mergeE.induct cmp with
    | case1 => rintro (⟨e, he, _⟩ | ⟨e, he, _⟩) <;> cases he
    | case2 x a ih =>
      rw [mergeE]
      rintro (⟨e, he, rfl⟩ | ⟨e, he, _⟩)
      · rcases List.mem_cons.1 he with rfl | he
        · exact ⟨_, .head _, rfl⟩
        · obtain ⟨z, hz, e2⟩ := ih (.inl ⟨e, he, rfl⟩)
          exact ⟨z, .tail _ hz, e2⟩
      · cases he
    | case3 y b ih =>
      rw [mergeE]
      rintro (⟨e, he, _⟩ | ⟨e, he, rfl⟩)
      · cases he
      · rcases List.mem_cons.1 he with rfl | he
        · exact ⟨_, .head _, rfl⟩
        · obtain ⟨z, hz, e2⟩ := ih (.inr ⟨e, he, rfl⟩)
          exact ⟨z, .tail _ hz, e2⟩
    | case4 x a y b hlt ih =>
      rw [mergeE, if_pos hlt]
      rintro (⟨e, he, rfl⟩ | h)
      · rcases List.mem_cons.1 he with rfl | he
        · exact ⟨_, .head _, rfl⟩
        · obtain ⟨z, hz, e2⟩ := ih (.inl ⟨e, he, rfl⟩)
          exact ⟨z, .tail _ hz, e2⟩
      · obtain ⟨z, hz, e2⟩ := ih (.inr h)
        exact ⟨z, .tail _ hz, e2⟩
    | case5 x a y b hlt hgt ih =>
      rw [mergeE, if_neg hlt, if_pos hgt]
      rintro (h | ⟨e, he, rfl⟩)
      · obtain ⟨z, hz, e2⟩ := ih (.inl h)
        exact ⟨z, .tail _ hz, e2⟩
      · rcases List.mem_cons.1 he with rfl | he
        · exact ⟨_, .head _, rfl⟩
        · obtain ⟨z, hz, e2⟩ := ih (.inr ⟨e, he, rfl⟩)
          exact ⟨z, .tail _ hz, e2⟩
    | case6 x a y b hlt hgt ih =>
      have exy := ho.tot _ _ hlt hgt
      rw [mergeE, if_neg hlt, if_neg hgt]
      rintro (⟨e, he, rfl⟩ | ⟨e, he, rfl⟩)
      · rcases List.mem_cons.1 he with rfl | he
        · exact ⟨_, .head _, rfl⟩
        · obtain ⟨z, hz, e2⟩ := ih (.inl ⟨e, he, rfl⟩)
          exact ⟨z, .tail _ hz, e2⟩
      · rcases List.mem_cons.1 he with rfl | he
        · exact ⟨_, .head _, exy⟩
        · obtain ⟨z, hz, e2⟩ := ih (.inr ⟨e, he, rfl⟩)
          exact ⟨z, .tail _ hz, e2⟩
theorem look_merge (ho : OrdK cmp) (f : Val → Val → Val) : ∀ a b : List (κ × Val), SrtK cmp a → SrtK cmp b → ∀ k, look (mergeG cmp f a b) k = comb f (look a k) (look b k) := by
  intro a b
  induction a, b using mergeE.induct cmp with
  | case1 => intro _ _ k; simp [mergeG, mergeE, look, comb]
  | case2 x a ih =>
    intro ha hb k
    have ha' := srt_cons.1 ha
    have : mergeG cmp f (x :: a) [] = (x.1, x.2) :: mergeG cmp f a [] := by unfold mergeG; rw [mergeE]; rfl
    rw [this, look_cons, look_cons, ih ha'.2 hb]
    rw [show look ([] : List (κ × Val)) k = none from rfl, comb_none, comb_none]
  | case3 y b ih =>
    intro ha hb k
    have hb' := srt_cons.1 hb
    have : mergeG cmp f [] (y :: b) = (y.1, y.2) :: mergeG cmp f [] b := by unfold mergeG; rw [mergeE]; rfl
    rw [this, look_cons, ih ha hb'.2]
    rw [show look ([] : List (κ × Val)) k = none from rfl, look_cons]
    rfl
  | case4 x a y b hlt ih =>
    intro ha hb k
    have ha' := srt_cons.1 ha
    have hb' := srt_cons.1 hb
    have : mergeG cmp f (x :: a) (y :: b) = (x.1, x.2) :: mergeG cmp f a (y :: b) := by unfold mergeG; rw [mergeE, if_pos hlt]; rfl
    rw [this, look_cons, ih ha'.2 hb]
    by_cases hk : x.1 = k
    · subst hk
      rw [if_pos rfl, mem_look ho ha (.head _), look_none (not_has ho (k := x.1) (l := y :: b) fun z hz => ?_)]
      · rfl
      · rcases List.mem_cons.1 hz with rfl | hz
        · exact hlt
        · exact ho.tr _ _ _ hlt (hb'.1 z hz)
    · rw [if_neg hk]
      congr 1
      rw [look_cons, if_neg hk]
  | case5 x a y b hlt hgt ih =>
    intro ha hb k
    have ha' := srt_cons.1 ha
    have hb' := srt_cons.1 hb
    have : mergeG cmp f (x :: a) (y :: b) = (y.1, y.2) :: mergeG cmp f (x :: a) b := by unfold mergeG; rw [mergeE, if_neg hlt, if_pos hgt]; rfl
    rw [this, look_cons, ih ha hb'.2]
    by_cases hk : y.1 = k
    · subst hk
      rw [if_pos rfl, mem_look ho hb (.head _), look_none (not_has ho (k := y.1) (l := x :: a) fun z hz => ?_)]
      · rfl
      · rcases List.mem_cons.1 hz with rfl | hz
        · exact hgt
        · exact ho.tr _ _ _ hgt (ha'.1 z hz)
    · rw [if_neg hk]
      congr 1
      conv => rhs; rw [look_cons, if_neg hk]
  | case6 x a y b hlt hgt ih =>
    intro ha hb k
    have ha' := srt_cons.1 ha
    have hb' := srt_cons.1 hb
    have exy := ho.tot _ _ hlt hgt
    have : mergeG cmp f (x :: a) (y :: b) = (x.1, f x.2 y.2) :: mergeG cmp f a b := by unfold mergeG; rw [mergeE, if_neg hlt, if_neg hgt]; rfl
    rw [this, look_cons, ih ha'.2 hb'.2]
    by_cases hk : x.1 = k
    · subst hk
      rw [if_pos rfl, mem_look ho ha (.head _), exy, mem_look ho hb (.head _)]
      rfl
    · rw [if_neg hk]
      conv => rhs; rw [look_cons, if_neg hk, look_cons, if_neg (exy ▸ hk)]
variable {blw : κ → κ → Prop}
def Dead (blw : κ → κ → Prop) (K : κ → Prop) (k : κ) : Prop := ∃ o, K o ∧ blw k o
open Classical in
noncomputable def topG (cmp : κ → κ → Int) (blw : κ → κ → Prop) (f : Val → Val → Val) (a b : List (κ × Val)) : List (κ × Val) := (mergeG cmp f a b).filter fun e => decide (¬ Dead blw (HasK (mergeG cmp f a b)) e.1)
theorem look_filter (q : κ → Bool) : ∀ (l : List (κ × Val)) (k : κ), look (l.filter fun e => q e.1) k = if q k = true then look l k else none
  | [], k => by simp [look]
  | e :: l, k => by
    by_cases hp : q e.1 = true
    · rw [List.filter_cons_of_pos (p := fun e : κ × Val => q e.1) hp, look_cons, look_filter q l k, look_cons]
      by_cases hk : e.1 = k
      · subst hk; simp [hp]
      · simp [hk]
    · rw [List.filter_cons_of_neg (p := fun e : κ × Val => q e.1) hp, look_filter q l k, look_cons]
      by_cases hk : e.1 = k
      · subst hk; simp [hp]
      · simp [hk]
def Or2 (a b : List (κ × Val)) (k : κ) : Prop := HasK a k ∨ HasK b k
open Classical in
theorem look_top (ho : OrdK cmp) {f : Val → Val → Val} {a b : List (κ × Val)} (ha : SrtK cmp a) (hb : SrtK cmp b) (k : κ) : look (topG cmp blw f a b) k = if Dead blw (Or2 a b) k then none else comb f (look a k) (look b k) := by
  unfold topG
  rw [look_filter (fun k => decide (¬ Dead blw (HasK (mergeG cmp f a b)) k)), look_merge ho f a b ha hb]
  have : Dead blw (HasK (mergeG cmp f a b)) k ↔ Dead blw (Or2 a b) k := by
    unfold Dead Or2
    simp only [merge_has ho]
  by_cases h : Dead blw (Or2 a b) k
  · rw [if_pos h, if_neg (by simpa using this.2 h)]
  · rw [if_neg h, if_pos (by simpa using fun h2 => h (this.1 h2))]
end
end Go.Proofs.YtlooahbfpmigfaaGreat
end
section
set_option linter.unusedVariables false
set_option linter.unusedSimpArgs false
set_option linter.unusedSectionVars false
set_option maxRecDepth 20000
namespace Go.Proofs.YtlooahbfpmigfaaGreat
open Go Go.MV
theorem eqlI {a b : Int} (h : a = b) : intCmp .eql a b = some true := by simp [intCmp, h]
theorem leq_of {s : Sch} {a b v : Val} (hs : isF 16 s = true) (ha : isVF s a = true) (hb : isVF s b = true) (h : bothF s a b = some v) : leqVF s a b = .ok (decide (v = b)) := leq_ok (join_ok_of hs ha hb h)
def clkV (c : List Tk) : Val := if c.length = 0 then noV else .mk 0 0 [] [c] []
theorem clk_nil : clkV [] = noV := rfl
theorem clk_cons {c : List Tk} (h : c ≠ []) : clkV c = .mk 0 0 [] [c] [] := by
  cases c with
  | nil => exact absurd rfl h
  | cons x c => rfl
theorem clk_inj {a b : List Tk} : clkV a = clkV b ↔ a = b := by
  constructor
  · intro h
    cases a <;> cases b <;> simp_all [clkV, noV]
  · rintro rfl; rfl
theorem is_clk {c : List Tk} (h : isClockF c = true) : isVF (.mk 7 []) (clkV c) = true := by
  cases c with
  | nil => rw [clk_nil]; unfold noV; rw [isVF_mk 7]; rfl
  | cons x c =>
    rw [clk_cons (by simp), isVF_mk 7]
    simp [bareF, numsK, textsK, clocksK, valuesK, Val.nv, Val.mv, Val.sv, Val.cv, Val.vv, h]
theorem join_ne {a b : List Tk} (h : a ≠ []) : joinF a b ≠ [] := by
  cases a with
  | nil => exact absurd rfl h
  | cons x a =>
    cases b with
    | nil => rw [join_nil]; simp
    | cons y b =>
      rw [join_cons]
      split
      · simp
      · split <;> simp
theorem both_clk {a b : List Tk} (la : a.length ≤ 15) (lb : b.length ≤ 15) : bothF (.mk 7 []) (clkV a) (clkV b) = some (clkV (joinF a b)) := by
  rw [bothF_mk, show bothB 7 (bothL []) (clkV a) (clkV b) = some (clocksF (clkV a) (clkV b)) from rfl]
  have h : clocksF (clkV a) (clkV b) = clkV (joinF a b) := by
    cases a with
    | nil => rw [nil_join]; rfl
    | cons x a =>
      cases b with
      | nil => rw [join_nil]; rfl
      | cons y b => rw [clk_cons (join_ne (by simp))]; rfl
  rw [h]
  refine cap_f ?_
  have := join_len a b
  cases hj : joinF a b with
  | nil => rfl
  | cons z c =>
    rw [hj] at this
    rw [clk_cons (by simp), large_eq]
    simp at this ⊢
    omega
section
variable {a b : List Tk} (ha : Go.MV.Up a) (hb : Go.MV.Up b) (pa : Go.MV.Pos a) (pb : Go.MV.Pos b)
include ha hb pa pb
theorem joinF_comm : joinF a b = joinF b a := by
  obtain ⟨h1, h2, h3⟩ := join_laws _ (Nat.le_refl _) ha hb pa pb
  obtain ⟨k1, k2, k3⟩ := join_laws _ (Nat.le_refl _) hb ha pb pa
  exact clock_ext h1 k1 h2 k2 fun w => by rw [h3, k3]; omega
theorem joinF_self : joinF a a = a := by
  obtain ⟨h1, h2, h3⟩ := join_laws _ (Nat.le_refl _) ha ha pa pa
  exact clock_ext h1 ha h2 pa fun w => by rw [h3]; omega
theorem cmp_pick : (if joinF a b = b then (if joinF b a = a then (0 : Int) else -1) else (if joinF b a = a then 1 else 2)) = cmpF a b := by
  rw [← joinF_comm ha hb pa pb]
  unfold cmpF
  by_cases h1 : joinF a b = b <;> by_cases h2 : joinF a b = a
  · have hne : a = b := h2.symm.trans h1
    rw [if_pos h1, if_pos h2, if_pos hne]
  · have hne : ¬ a = b := fun e => h2 (by rw [h1, e])
    rw [if_pos h1, if_neg h2, if_neg hne, if_pos h1]
  · have hne : ¬ a = b := fun e => h1 (by rw [h2, e])
    rw [if_neg h1, if_pos h2, if_neg hne, if_neg h1]
  · have hne : ¬ a = b := fun e => h1 (by rw [e]; exact joinF_self hb hb pb pb)
    rw [if_neg h1, if_neg h2, if_neg hne, if_neg h1]
end
section
variable {a b : List Tk} (ka : isClockF a = true) (kb : isClockF b = true) (oa : ∀ t ∈ a, okTk t) (ob : ∀ t ∈ b, okTk t) (la : a.length ≤ 15) (lb : b.length ≤ 15)
include ka kb oa ob la lb
theorem leq_clk : leqVF (.mk 7 []) (clkV a) (clkV b) = .ok (decide (joinF a b = b)) := by
  rw [leq_of (by decide) (is_clk ka) (is_clk kb) (both_clk la lb)]
  congr 1
  rw [decide_eq_decide, clk_inj]
theorem cmp_clk : cmpVF (.mk 7 []) (clkV a) (clkV b) = .ok (rcmpF a b) := by
  obtain ⟨ha, pa, _⟩ := isClock_spec ka oa
  obtain ⟨hb, pb, _⟩ := isClock_spec kb ob
  rw [cmp_ok (leq_clk ka kb oa ob la lb) (leq_clk kb ka ob oa lb la), ← cmp_eq ha hb pa pb, ← cmp_pick ha hb pa pb]
  simp only [decide_eq_true_eq]
end
theorem okV_clk {c : List Tk} (h : ∀ t ∈ c, okTk t) : okV (clkV c) := by
  cases c with
  | nil => exact okV_no
  | cons x c =>
    rw [clk_cons (by simp)]
    exact okV_mk.2 ⟨by omega, by omega, fun y hy => by rw [List.mem_singleton] at hy; subst hy; exact h, by simp⟩
section
variable {a b : List Tk} {x y : Int} (ka : isClockF a = true) (kb : isClockF b = true) (oa : ∀ t ∈ a, okTk t) (ob : ∀ t ∈ b, okTk t)
include ka kb oa ob
end
theorem both_iff {A B : List Bs} (ha : Up A) (hb : Up B) : bothX A B = B ↔ ∀ z ∈ A, z ∈ B := by
  constructor
  · intro h z hz
    rw [← h, mem_both]
    exact .inl hz
  · intro h
    refine up_ext (up_both A B ha hb) hb fun z => ?_
    rw [mem_both]
    exact ⟨fun hz => hz.elim (h z) id, .inr⟩
def setV (A : List Bs) : Val := .mk 0 0 A [] []
theorem leq_set {A B : List Bs} (ha : isRowF A = true) (hb : isRowF B = true) (ua : Up A) (ub : Up B) (hl : A.length + B.length ≤ 40) : leqVF (.mk 3 []) (setV A) (setV B) = .ok (decide (∀ z ∈ A, z ∈ B)) := by
  have h := join_set ha hb
  rw [if_neg (by have := both_len A B; omega)] at h
  unfold setV
  rw [leq_ok h]
  congr 1
  rw [decide_eq_decide, ← both_iff ua ub]
  simp
def kC_ : Val := .mk 0 0 [[99]] [] []
theorem up1 (x : UInt8) : Up [[x]] := by simp [Up]
theorem kl_1 : leqVF (.mk 3 []) kA kAB = .ok true := by
  rw [show kA = setV [[97]] from rfl, show kAB = setV [[97], [98]] from rfl, leq_set (by decide) (by decide) (up1 _) ((rises_up _).1 (by decide)) (by decide)]
  simp
theorem kl_2 : leqVF (.mk 3 []) kAB kA = .ok false := by
  rw [show kA = setV [[97]] from rfl, show kAB = setV [[97], [98]] from rfl, leq_set (by decide) (by decide) ((rises_up _).1 (by decide)) (up1 _) (by decide)]
  simp
theorem kl_3 : cmpVF (.mk 3 []) kA kC_ = .ok 2 := by
  have h1 : leqVF (.mk 3 []) kA kC_ = .ok false := by
    rw [show kA = setV [[97]] from rfl, show kC_ = setV [[99]] from rfl, leq_set (by decide) (by decide) (up1 _) (up1 _) (by decide)]
    simp
  have h2 : leqVF (.mk 3 []) kC_ kA = .ok false := by
    rw [show kA = setV [[97]] from rfl, show kC_ = setV [[99]] from rfl, leq_set (by decide) (by decide) (up1 _) (up1 _) (by decide)]
    simp
  rw [cmp_ok h1 h2]
  rfl
theorem kl_4 : cmpVF (.mk 3 []) kA (.mk 1 0 [] [] []) = .error 14 := cmp_e (leq_14 (join_err_b (by rw [isVF_mk 3]; rfl)))
theorem leq_at {s : Sch} {a b : Val} {r : Except Int Bool} (ha : okV a) (hb : okV b) (h : leqVF s a b = r) (S : MS) : MCalls Tryz.prog 19 [encS s, encV a, encV b] S fun v σ' => v = encL r ∧ σ' = S := h ▸ leq_spec s a b ha hb S
theorem cmp_at {s : Sch} {a b : Val} {r : Except Int Int} (ha : okV a) (hb : okV b) (h : cmpVF s a b = r) (S : MS) : MCalls Tryz.prog 17 [encS s, encV a, encV b] S fun v σ' => v = encK r ∧ σ' = S := h ▸ cmpV_spec s a b ha hb S
end Go.Proofs.YtlooahbfpmigfaaGreat
end
section
set_option linter.unusedVariables false
set_option linter.unusedSimpArgs false
set_option maxRecDepth 20000
set_option maxHeartbeats 400000
namespace Go.Proofs.YtlooahbfpmigfaaGreat
open Go Go.MV
theorem lawOfO_spec (k : Int) (ins : List Sch) (S : MS) : MCalls Tryz.prog 18 [.int .i64 k, .lst none 2 (encSs ins)] S fun v σ' => v = encS (.mk k ins) ∧ σ' = S := by
 refine mcalls_body Tryz.func18 rfl Tryz.ntmps18 (Nat.le_of_ble_eq_true rfl) ?_
 refine mwp_seq <| qR rfl <| qO rfl <| op_alloc' rfl zm37 rfl rfl <| qN <| mwp_seq <| qR rfl <| qM rfl rfl rfl <| qM rfl rfl rfl <| qO rfl <| op_build rfl Tryz.underlying37 zm37 (.cons fo37_0 sz3 rfl rfl (Nat.le_of_ble_eq_true rfl) (.cons fo37_1 sz35 rfl rfl (Nat.le_of_ble_eq_true rfl) .nil)) (by kernel_rfl) ?_
 refine qO rfl <| op_store' rfl rfl rfl rfl sz37 rfl rfl (Nat.le_of_ble_eq_true rfl) rfl <| qN <| mwp_ret ?_
 exact ret_cell (y := encS (.mk k ins)) (.inr rfl) Tryz.results18 rfl rfl ta37 rfl (.refl _) (cl_encS _ _) ⟨rfl, rfl⟩
theorem rClocks_spec (c : List Tk) (S : MS) : MCalls Tryz.prog 21 [.lst none 2 (c.map encT)] S fun v σ' => v = encV (clkV c) ∧ σ' = S := by
 refine mcalls_body Tryz.func21 rfl Tryz.ntmps21 (Nat.le_of_ble_eq_true rfl) ?_
 refine mwp_seq <| qR rfl <| qO rfl <| op_alloc' rfl zm29 rfl rfl <| qN <| mwp_seq <| mwp_seq <| qR rfl <| qM rfl rfl rfl <| qE rfl rfl Tryz.underlying44 rfl <| qC rfl rfl rfl rfl rfl <| qN ?_
 refine mwp_cond_split rfl (fun h5 => ?_) (fun h5 => ?_)
 ·
  have hl : c.length = 0 := by simpa using h5
  refine mwp_seq <| qR rfl <| qO rfl <| op_build rfl Tryz.underlying29 zm29 .nil (by kernel_rfl) ?_
  refine qO rfl <| op_store' rfl rfl rfl rfl sz29 rfl rfl (Nat.le_of_ble_eq_true rfl) rfl <| qN <| mwp_ret ?_
  exact ret_cell (y := encV noV) (.inr rfl) Tryz.results21 rfl rfl ta29 rfl (.agg (.cons (.refl _) (.cons (.refl _) (.cons (.nil 1) (.cons (.nil 1) (.cons (.nil 5) .nil)))))) (cl_encV _ _) ⟨by rw [clkV, if_pos hl], rfl⟩
 ·
  have hl : ¬ c.length = 0 := by simpa using h5
  refine mwp_skip <| mwp_seq <| qR rfl <| qM rfl rfl rfl <| qO rfl <| op_buildSlice rfl Tryz.underlying26 el44 rfl rfl (by decide) (by decide) rfl rfl ?_
  refine qO rfl <| op_build rfl Tryz.underlying29 zm29 (.cons fo29_3 sz26 rfl rfl (Nat.le_of_ble_eq_true rfl) .nil) (by kernel_rfl) ?_
  refine qO rfl <| op_store' rfl rfl rfl rfl sz29 rfl rfl (Nat.le_of_ble_eq_true rfl) rfl <| qN <| mwp_ret ?_
  exact ret_cell (y := encV (.mk 0 0 [] [c] [])) (.inr rfl) Tryz.results21 rfl rfl ta29 rfl (.agg (.cons (.refl _) (.cons (.refl _) (.cons (.nil 1) (.cons (.refl _) (.cons (.nil 5) .nil)))))) (cl_encV _ _) ⟨by rw [clkV, if_neg hl], rfl⟩
theorem knownO_spec (S : MS) : MCalls Tryz.prog 15 [] S fun v σ' => v = .bool true ∧ σ' = S := by
 refine mcalls_body Tryz.func15 rfl Tryz.ntmps15 (Nat.le_of_ble_eq_true rfl) ?_
 refine mwp_seq <| qR rfl <| qA rfl rfl rfl <| qN <| mwp_seq <| qR rfl <| qO rfl <| op_viewTo (y := encS (.mk 3 [])) (op_build rfl Tryz.underlying37 zm37 (.cons fo37_0 sz3 rfl rfl (Nat.le_of_ble_eq_true rfl) .nil) (by kernel_rfl) ⟨rfl, rfl⟩) (.agg (.cons (.refl _) (.cons (.nil 2) .nil))) ?_
 refine qO rfl <| op_alloc' rfl zm37 rfl rfl <| qO rfl <| op_store' rfl rfl rfl rfl sz37 rfl rfl (Nat.le_of_ble_eq_true rfl) rfl <| qN <| mwp_seq <| qR rfl <| qO rfl <| op_buildSlice rfl Tryz.underlying25 el9 rfl rfl (by decide) (by decide) rfl rfl ?_
 refine qO rfl <| op_viewTo (y := encV kA) (op_build rfl Tryz.underlying29 zm29 (.cons fo29_2 sz25 rfl rfl (Nat.le_of_ble_eq_true rfl) .nil) (by kernel_rfl) ⟨rfl, rfl⟩) (.agg (.cons (.refl _) (.cons (.refl _) (.cons (.refl _) (.cons (.nil 1) (.cons (.nil 5) .nil)))))) ?_
 refine qO rfl <| op_buildSlice rfl Tryz.underlying25 el9 rfl rfl (by decide) (by decide) rfl rfl ?_
 refine qO rfl <| op_viewTo (y := encV kAB) (op_build rfl Tryz.underlying29 zm29 (.cons fo29_2 sz25 rfl rfl (Nat.le_of_ble_eq_true rfl) .nil) (by kernel_rfl) ⟨rfl, rfl⟩) (.agg (.cons (.refl _) (.cons (.refl _) (.cons (.refl _) (.cons (.nil 1) (.cons (.nil 5) .nil)))))) ?_
 refine qO rfl <| op_alloc' rfl zm29 rfl rfl <| qO rfl <| op_alloc' rfl zm29 rfl rfl <| qO rfl <| op_store' rfl rfl rfl rfl sz29 rfl rfl (Nat.le_of_ble_eq_true rfl) rfl <| qO rfl <| op_store' rfl rfl rfl rfl sz29 rfl rfl (Nat.le_of_ble_eq_true rfl) rfl <| qN <| mwp_seq <| qR rfl <| qL rfl rfl rfl rfl ta37 rfl <| qL rfl rfl rfl rfl ta29 rfl <| qL rfl rfl rfl rfl ta29 rfl ?_
 refine wOps_op rfl (op_call rfl rfl rfl co19 ((leq_at ok_kn.1 ok_kn.2.2.1 kl_1 _).mono ?_))
 rintro _ _ ⟨rfl, rfl⟩
 refine qM rfl rfl rfl <| qO rfl <| op_extract rfl rfl rfl <| qO rfl <| op_extract rfl rfl rfl <| qA rfl rfl rfl <| qA rfl rfl rfl <| qN <| mwp_seq <| qR rfl <| qL rfl rfl rfl rfl ta37 rfl <| qL rfl rfl rfl rfl ta29 rfl <| qL rfl rfl rfl rfl ta29 rfl ?_
 refine wOps_op rfl (op_call rfl rfl rfl co19 ((leq_at ok_kn.2.2.1 ok_kn.1 kl_2 _).mono ?_))
 rintro _ _ ⟨rfl, rfl⟩
 refine qM rfl rfl rfl <| qO rfl <| op_extract rfl rfl rfl <| qO rfl <| op_extract rfl rfl rfl <| qA rfl rfl rfl <| qA rfl rfl rfl <| qN <| mwp_seq <| qR rfl <| qL rfl rfl rfl rfl ta37 rfl <| qL rfl rfl rfl rfl ta29 rfl <| qO rfl <| op_buildSlice rfl Tryz.underlying25 el9 rfl rfl (by decide) (by decide) rfl rfl ?_
 refine qO rfl <| op_viewTo (y := encV kC_) (op_build rfl Tryz.underlying29 zm29 (.cons fo29_2 sz25 rfl rfl (Nat.le_of_ble_eq_true rfl) .nil) (by kernel_rfl) ⟨rfl, rfl⟩) (.agg (.cons (.refl _) (.cons (.refl _) (.cons (.refl _) (.cons (.nil 1) (.cons (.nil 5) .nil)))))) ?_
 refine wOps_op rfl (op_call rfl rfl rfl co17 ((cmp_at ok_kn.1 (by simp [kC_, okV, okVs]) kl_3 _).mono ?_))
 rintro _ _ ⟨rfl, rfl⟩
 refine qM rfl rfl rfl <| qO rfl <| op_extract rfl rfl rfl <| qO rfl <| op_extract rfl rfl rfl <| qA rfl rfl rfl <| qA rfl rfl rfl <| qN <| mwp_seq <| qR rfl <| qL rfl rfl rfl rfl ta37 rfl <| qL rfl rfl rfl rfl ta29 rfl <| qO rfl <| op_viewTo (y := encV (.mk 1 0 [] [] [])) (op_build rfl Tryz.underlying29 zm29 (.cons fo29_0 sz24 rfl rfl (Nat.le_of_ble_eq_true rfl) .nil) (by kernel_rfl) ⟨rfl, rfl⟩) (.agg (.cons (.refl _) (.cons (.refl _) (.cons (.nil 1) (.cons (.nil 1) (.cons (.nil 5) .nil)))))) ?_
 refine wOps_op rfl (op_call rfl rfl rfl co17 ((cmp_at ok_kn.1 (okV_num (by decide)) kl_4 _).mono ?_))
 rintro _ _ ⟨rfl, rfl⟩
 refine qM rfl rfl rfl <| qO rfl <| op_extract rfl rfl rfl <| qO rfl <| op_extract rfl rfl rfl <| qA rfl rfl rfl <| qA rfl rfl rfl <| qN <| mwp_seq <| qR rfl <| qM rfl rfl rfl <| qO rfl <| op_if0 rfl Tryz.underlying32 rfl rfl (.inl ⟨rfl, rfl⟩) <| qM rfl rfl rfl <| qM rfl rfl rfl <| qP rfl rfl rfl rfl <| qM rfl rfl rfl <| qM rfl rfl rfl <| qO rfl <| op_if0 rfl Tryz.underlying32 rfl rfl (.inl ⟨rfl, rfl⟩) <| qP rfl rfl rfl rfl ?_
 refine qM rfl rfl rfl <| qM rfl rfl rfl <| qO rfl <| op_not rfl rfl <| qP rfl rfl rfl rfl <| qM rfl rfl rfl <| qM rfl rfl rfl <| qO rfl <| op_if0 rfl Tryz.underlying32 rfl rfl (.inl ⟨rfl, rfl⟩) <| qP rfl rfl rfl rfl <| qM rfl rfl rfl <| qM rfl rfl rfl <| qC rfl rfl rfl rfl (eqlI rfl) <| qP rfl rfl rfl rfl <| qM rfl rfl rfl <| qM rfl rfl rfl <| qO rfl <| op_makeInterface rfl rfl Tryz.underlying62 (by simp) ?_
 refine wOps_op rfl (op_call rfl rfl rfl co32 ((errIs_spec 14 _).mono ?_))
 rintro _ _ ⟨rfl, rfl⟩
 refine qP rfl rfl rfl rfl <| qA rfl rfl rfl <| qN <| mwp_ret ?_
 exact ret_tmp (.inr rfl) Tryz.results15 rfl (.of_eq (rfl)) (.bool _) ⟨rfl, rfl⟩
theorem OrderClocks_spec (a b : List Tk) (oa : ∀ t ∈ a, okTk t) (ob : ∀ t ∈ b, okTk t) (S : MS) : MCalls Tryz.prog 6 [.lst none 2 (a.map encT), .lst none 2 (b.map encT)] S fun v σ' => v = .bool true ∧ σ' = S := by
 refine mcalls_body Tryz.func6 rfl Tryz.ntmps6 (Nat.le_of_ble_eq_true rfl) ?_
 refine mwp_seq <| qR rfl <| qA rfl rfl rfl <| qN <| mwp_seq <| mwp_seq <| qR rfl ?_
 refine wOps_op rfl (op_call rfl rfl rfl co15 ((knownO_spec _).mono ?_))
 rintro _ _ ⟨rfl, rfl⟩
 refine qO rfl <| op_not rfl rfl <| qN <| mwp_cond_f rfl (rfl) <| mwp_skip <| mwp_seq <| mwp_seq <| qR rfl <| qM rfl rfl rfl ?_
 refine wOps_op rfl (op_call rfl rfl rfl co20 ((rIsClock_spec a _).mono ?_))
 rintro _ _ ⟨rfl, rfl⟩
 refine qO rfl <| op_not rfl rfl <| qM rfl rfl rfl ?_
 refine wOps_case (fun h12 => ?_) (fun h12 => ?_)
 ·
  refine qS rfl <| qS rfl <| qS rfl <| qP rfl rfl rfl rfl <| qM rfl rfl rfl <| qS rfl <| qS rfl <| qS rfl <| qP rfl rfl rfl rfl <| qM rfl rfl rfl <| qS rfl <| qS rfl <| qS rfl <| qP rfl rfl rfl rfl <| qN <| mwp_cond_t rfl (rfl) <| mwp_seq <| qR rfl <| qA rfl rfl rfl <| qN <| mwp_ret ?_
  exact ret_tmp (.inr rfl) Tryz.results6 rfl (.of_eq (rfl)) (.bool _) ⟨rfl, rfl⟩
 ·
  have ka : isClockF a = true := by simpa using h12
  refine qM rfl rfl rfl ?_
  refine wOps_op rfl (op_call rfl rfl rfl co20 ((rIsClock_spec b _).mono ?_))
  rintro _ _ ⟨rfl, rfl⟩
  refine qO rfl <| op_not rfl rfl <| qP rfl rfl rfl rfl <| qM rfl rfl rfl ?_
  refine wOps_case (fun h17 => ?_) (fun h17 => ?_)
  ·
   refine qS rfl <| qS rfl <| qS rfl <| qP rfl rfl rfl rfl <| qM rfl rfl rfl <| qS rfl <| qS rfl <| qS rfl <| qP rfl rfl rfl rfl <| qN <| mwp_cond_t rfl (rfl) <| mwp_seq <| qR rfl <| qA rfl rfl rfl <| qN <| mwp_ret ?_
   exact ret_tmp (.inr rfl) Tryz.results6 rfl (.of_eq (rfl)) (.bool _) ⟨rfl, rfl⟩
  ·
   have kb : isClockF b = true := by simpa using h17
   refine qM rfl rfl rfl <| qE rfl rfl Tryz.underlying44 rfl <| qC rfl rfl rfl rfl rfl <| qP rfl rfl rfl rfl <| qM rfl rfl rfl ?_
   refine wOps_case (fun h22 => ?_) (fun h22 => ?_)
   ·
    refine qS rfl <| qS rfl <| qS rfl <| qP rfl rfl rfl rfl <| qN <| mwp_cond_t rfl (rfl) <| mwp_seq <| qR rfl <| qA rfl rfl rfl <| qN <| mwp_ret ?_
    exact ret_tmp (.inr rfl) Tryz.results6 rfl (.of_eq (rfl)) (.bool _) ⟨rfl, rfl⟩
   ·
    have la : a.length ≤ 15 := by rw [List.length_map] at h22; have := of_decide_eq_false h22; omega
    refine qM rfl rfl rfl <| qE rfl rfl Tryz.underlying44 rfl <| qC rfl rfl rfl rfl rfl <| qP rfl rfl rfl rfl <| qN ?_
    refine mwp_cond_split rfl (fun h26 => ?_) (fun h26 => ?_)
    ·
     refine mwp_seq <| qR rfl <| qA rfl rfl rfl <| qN <| mwp_ret ?_
     exact ret_tmp (.inr rfl) Tryz.results6 rfl (.of_eq (rfl)) (.bool _) ⟨rfl, rfl⟩
    ·
     have lb : b.length ≤ 15 := by rw [List.length_map] at h26; have := of_decide_eq_false h26; omega
     refine mwp_skip <| mwp_seq <| qR rfl ?_
     refine wOps_op rfl (op_call rfl rfl rfl co18 (((lawOfO_spec 7 [] _).sub (.cons (.refl _) (.cons (.nil 2) .nil))).mono ?_))
     rintro _ _ ⟨rfl, rfl⟩
     refine qM rfl rfl rfl ?_
     refine wOps_op rfl (op_call rfl rfl rfl co21 ((rClocks_spec a _).mono ?_))
     rintro _ _ ⟨rfl, rfl⟩
     refine qM rfl rfl rfl ?_
     refine wOps_op rfl (op_call rfl rfl rfl co21 ((rClocks_spec b _).mono ?_))
     rintro _ _ ⟨rfl, rfl⟩
     refine wOps_op rfl (op_call rfl rfl rfl co17 ((cmp_at (okV_clk oa) (okV_clk ob) (cmp_clk ka kb oa ob la lb) _).mono ?_))
     rintro _ _ ⟨rfl, rfl⟩
     refine qM rfl rfl rfl <| qO rfl <| op_extract rfl rfl rfl <| qO rfl <| op_extract rfl rfl rfl <| qA rfl rfl rfl <| qA rfl rfl rfl <| qN <| mwp_seq <| qR rfl <| qM rfl rfl rfl <| qO rfl <| op_if0 rfl Tryz.underlying32 rfl rfl (.inl ⟨rfl, rfl⟩) <| qM rfl rfl rfl <| qM rfl rfl rfl <| qM rfl rfl rfl <| qM rfl rfl rfl ?_
     refine wOps_op rfl (op_call rfl rfl rfl co22 ((rCmpC_spec a b _).mono ?_))
     rintro _ _ ⟨rfl, rfl⟩
     refine qC rfl rfl rfl rfl (eqlI rfl) <| qP rfl rfl rfl rfl <| qA rfl rfl rfl <| qN <| mwp_ret ?_
     exact ret_tmp (.inr rfl) Tryz.results6 rfl (.of_eq (rfl)) (.bool _) ⟨rfl, rfl⟩
end Go.Proofs.YtlooahbfpmigfaaGreat
end
section
set_option linter.unusedVariables false
set_option linter.unusedSimpArgs false
namespace Go.MV
open Go Go.RowKit Go.ChangeShapes Go.WideShapes Go.Deep
def g0 (W : World) : Gh := { B := W.heap.size, w0 := W, st := fun b => match W.heap[b]? with | some (.cells c _ _) => c.size | _ => 0, bk := fun _ => none, lg := fun _ _ => none }
theorem rel0 (W : World) : Rel (g0 W) [] W := by
  refine ⟨.refl _ _, Nat.le_refl _, fun b hb => ?_, fun _ _ => rfl, fun _ _ _ => rfl, fun _ => none, ⟨fun id o h => (by simp at h), fun i j b h => (by cases h), fun id b h => (by cases h)⟩⟩
  show (match W.heap[b]? with | some (.cells c _ _) => c.size | _ => 0) = 0
  rw [Array.getElem?_eq_none hb]
theorem stab0 {W : World} {ad : Addr} {k : Nat} {v : Value} (h : W.cell? (ad.add k) = some v) (h1 : v.oneCell' = true) : Stab (g0 W) W ad k v := by
  refine ⟨?_, h, h1⟩
  have e := cell_spot h
  rw [e] at h
  show _ < (match W.heap[(ad.add k).block]? with | some (.cells c _ _) => c.size | _ => 0)
  unfold World.cell? at h
  split at h
  · rename_i c t f hc
    simp only [Option.isSome_none, Bool.false_eq_true, if_false] at h
    simp only at hc
    rw [hc]
    exact (Array.getElem?_eq_some_iff.1 h).1
  · cases h
def TyFs (T : TypeId → List MV → Prop) : List Field → List MV → Prop
  | [], l => l = []
  | f :: fs, l => ∃ a b, l = a ++ b ∧ T f.type a ∧ TyFs T fs b
def ElF (P : Program) (e : TypeId) (x : MV) : Prop := match P.underlying e with | some (.struct _) => x = .agg x.cells | _ => [x] = x.cells
def TyM (P : Program) : Nat → TypeId → List MV → Prop
  | 0, _, _ => False
  | n + 1, t, l =>
    match P.underlying t with
    | some (.int k) => ∃ v, l = [.int k v] ∧ (Lit.int k v).wf = true
    | some .bool => ∃ b, l = [.bool b]
    | some .string => ∃ s, l = [.str s] ∧ s.size ≤ maxLen
    | some (.slice e) => ∃ xs, l = [.lst none (P.cellsOf e) xs] ∧ ∀ x ∈ xs, x.cells.length = P.cellsOf e ∧ TyM P n e x.cells ∧ ElF P e x
    | some (.struct fs) => TyFs (TyM P n) fs.toList l
    | _ => False
def contig (P : Program) (size : Nat) : List Field → Nat → Bool
  | [], off => Nat.beq off size
  | f :: fs, off => Nat.beq f.offset off && contig P size fs (off + P.cellsOf f.type)
def okTypes (P : Program) (ts : List TypeId) : Bool :=
  ts.all fun t => match P.underlying t with
    | some (.int _) | some .bool | some .string => true
    | some (.slice e) => natMem e ts && (match P.underlying e with | some (.struct _) => true | _ => Nat.beq (P.cellsOf e) 1)
    | some (.struct fs) => fs.toList.all (fun f => natMem f.type ts) && contig P (P.cellsOf t) fs.toList 0
    | _ => false
theorem rds_of_fields {P : Program} {W : World} {T : TypeId → List MV → Prop} {cs : List Value} {size : Nat} (hlen : cs.length = size) : ∀ (fs : List Field) (off : Nat), contig P size fs off = true →
    (∀ f ∈ fs, ∃ l, Rds (g0 W) W l ((cs.drop f.offset).take (P.cellsOf f.type)) ∧ T f.type l ∧ l.length = P.cellsOf f.type ∧ ∀ y ∈ l, y.one = true) → ∃ l, Rds (g0 W) W l (cs.drop off) ∧ TyFs T fs l ∧ ∀ y ∈ l, y.one = true
  | [], off, hc, _ => by
    have := Nat.eq_of_beq_eq_true hc
    refine ⟨[], ?_, rfl, fun y hy => by cases hy⟩
    rw [List.drop_eq_nil_of_le (by omega)]
    exact .nil _ _
  | f :: fs, off, hc, h => by
    simp only [contig, Bool.and_eq_true] at hc
    have ho := Nat.eq_of_beq_eq_true hc.1
    obtain ⟨a, h1, h2, h3, h5⟩ := h f (List.mem_cons_self ..)
    obtain ⟨b, k1, k2, k3⟩ := rds_of_fields hlen fs _ hc.2 (fun f' hf' => h f' (List.mem_cons_of_mem _ hf'))
    refine ⟨a ++ b, ?_, ⟨a, b, rfl, h2, k2⟩, fun y hy => (List.mem_append.1 hy).elim (h5 y) (k3 y)⟩
    have e : cs.drop off = (cs.drop off).take (P.cellsOf f.type) ++ cs.drop (off + P.cellsOf f.type) := by
      rw [← List.drop_drop, List.take_append_drop]
    rw [e]
    rw [ho] at h1
    exact h1.append k1
theorem tyFs_mono {T T' : TypeId → List MV → Prop} (h : ∀ t l, T t l → T' t l) : ∀ (fs : List Field) (l : List MV), TyFs T fs l → TyFs T' fs l
  | [], l, hl => hl
  | f :: fs, l, ⟨a, b, e, h1, h2⟩ => ⟨a, b, e, h _ _ h1, tyFs_mono h fs b h2⟩
theorem tyM_succ {P : Program} : ∀ (n : Nat) (t : TypeId) (l : List MV), TyM P n t l → TyM P (n + 1) t l
  | 0, t, l, h => h.elim
  | n + 1, t, l, h => by
    unfold TyM at h ⊢
    split at h
    · rename_i k hu; exact h
    · rename_i hu; exact h
    · rename_i hu; exact h
    · rename_i e hu
      obtain ⟨xs, h1, h2⟩ := h
      exact ⟨xs, h1, fun x hx => ⟨(h2 x hx).1, tyM_succ n _ _ (h2 x hx).2.1, (h2 x hx).2.2⟩⟩
    · rename_i fs hu; exact tyFs_mono (tyM_succ n) _ _ h
    · exact h.elim
theorem tyM_le {P : Program} {n m : Nat} (h : n ≤ m) {t : TypeId} {l : List MV} (ht : TyM P n t l) : TyM P m t l := by
  obtain ⟨d, rfl⟩ := Nat.le.dest h
  induction d with
  | zero => exact ht
  | succ d ih => exact tyM_succ _ _ _ (ih (by omega))
section
variable {H : Type} {enc : TypeId × Value → H} {P : Program} {W : World} {base : Nat} {spare : Nat → Bool} {held : Bool}
theorem common_bound {α : Type} {p : Nat → α → Prop} (hm : ∀ n m a, n ≤ m → p n a → p m a) : ∀ (l : List α), (∀ a ∈ l, ∃ n, p n a) → ∃ n, ∀ a ∈ l, p n a
  | [], _ => ⟨0, fun a h => by cases h⟩
  | a :: l, h => by
    obtain ⟨n, hn⟩ := h a (List.mem_cons_self ..)
    obtain ⟨m, hm'⟩ := common_bound hm l (fun b hb => h b (List.mem_cons_of_mem _ hb))
    refine ⟨max n m, fun b hb => ?_⟩
    rcases List.mem_cons.1 hb with rfl | hb
    · exact hm _ _ _ (by omega) hn
    · exact hm _ _ _ (by omega) (hm' b hb)
theorem reads_gen {ts : List TypeId} (hok : okTypes P ts = true) : ∀ (n : Nat) (x : DataW H × List MemPlace) (fuel : Nat) (t : TypeId) (cs : List Value), SizeOf.sizeOf x.1 ≤ n → t ∈ ts → DataW.trod enc P W base spare held fuel t cs = some x →
    ∃ (l : List MV) (m : Nat), Rds (g0 W) W l cs ∧ TyM P m t l ∧ ∀ y ∈ l, y.one = true := by
  intro n
  induction n using Nat.strongRecOn with
  | _ n ih =>
  intro x fuel t cs hx ht h
  have hot : (match P.underlying t with
    | some (.int _) | some .bool | some .string => true
    | some (.slice e) => natMem e ts && (match P.underlying e with | some (.struct _) => true | _ => Nat.beq (P.cellsOf e) 1)
    | some (.struct fs) => fs.toList.all (fun f => natMem f.type ts) && contig P (P.cellsOf t) fs.toList 0
    | _ => false) = true := by
    simp only [okTypes, List.all_eq_true] at hok
    exact hok t ht
  split at hot
  · rename_i k hu
    obtain ⟨v, rfl, rfl, hwf⟩ := DataW.trod_int hu h
    refine ⟨[.int k v], 1, .cons (.int _ _) (.nil _ _), ?_, by simp [MV.one]⟩
    unfold TyM
    rw [hu]
    exact ⟨v, rfl, hwf⟩
  · rename_i hu
    obtain ⟨b, rfl, rfl⟩ := DataW.trod_bool hu h
    refine ⟨[.bool b], 1, .cons (.bool _) (.nil _ _), ?_, by simp [MV.one]⟩
    unfold TyM
    rw [hu]
    exact ⟨b, rfl⟩
  · rename_i hu
    obtain ⟨s, rfl, rfl, hs⟩ := DataW.trod_string hu h
    refine ⟨[.str s], 1, .cons (.str _) (.nil _ _), ?_, by simp [MV.one]⟩
    unfold TyM
    rw [hu]
    exact ⟨s, rfl, hs⟩
  · rename_i e hu
    simp only [Bool.and_eq_true] at hot
    have he : e ∈ ts := natMem_iff.1 hot.1
    rcases open_slice hu h with ⟨rfl, rfl⟩ | ⟨a, len, cap, m, n', D, Pl, rfl, hb, hl, hm, hmm, rfl, hi⟩
    · refine ⟨[.lst none (P.cellsOf e) []], 1, .cons (Sub.nil _ _ _ _ .lst0) (.nil _ _), ?_, by simp [MV.one]⟩
      unfold TyM
      rw [hu]
      exact ⟨[], rfl, fun x hx => by cases hx⟩
    · have hlm : len ≤ m := by rw [hmm]; split <;> omega
      have hel : ∀ i, i < len → ∃ (l : List MV) (k : Nat) (us : List Value), us.length = P.cellsOf e ∧ Rds (g0 W) W l us ∧ TyM P k e l ∧ (∀ y ∈ l, y.one = true) ∧ ∀ j, j < P.cellsOf e → W.cell? ((a.add (i * P.cellsOf e)).add j) = us[j]? := by
        intro i hil
        obtain ⟨cs', hc, ht'⟩ := hi i (by omega)
        obtain ⟨_, hlen, hcell⟩ := World.cells?_some hc
        have hsz : SizeOf.sizeOf (D i) < n := by
          have hmem : D i ∈ (List.range len).map D := List.mem_map.2 ⟨i, List.mem_range.2 hil, rfl⟩
          have := List.sizeOf_lt_of_mem hmem
          simp only [DataW.slice.sizeOf_spec] at hx
          omega
        obtain ⟨l, k, h1, h2, h3⟩ := ih _ hsz (D i, Pl i) n' e cs' (Nat.le_refl _) he ht'
        exact ⟨l, k, cs', hlen, h1, h2, h3, hcell⟩
      have hall : ∀ (N : Nat), N ≤ len → ∃ (xs : List MV) (us : List Value) (k : Nat), xs.length = N ∧ us.length = N * P.cellsOf e ∧ Rds (g0 W) W (flat xs) us ∧ (∀ y ∈ flat xs, y.one = true) ∧ (∀ x ∈ xs, x.cells.length = P.cellsOf e ∧ TyM P k e x.cells ∧ ElF P e x) ∧
          ∀ j, j < N * P.cellsOf e → W.cell? (a.add j) = us[j]? := by
        intro N
        induction N with
        | zero => exact fun _ => ⟨[], [], 0, rfl, by simp, .nil _ _, by simp [flat], by simp, by simp⟩
        | succ N ihN =>
          intro hN
          obtain ⟨xs, us, k, q1, q2, q3, q4, q5, q6⟩ := ihN (by omega)
          obtain ⟨l, k', us', r1, r2, r3, r4, r5⟩ := hel N (by omega)
          have hll : l.length = P.cellsOf e := by rw [← r2.1, r1]
          obtain ⟨y, hy1, hy2⟩ : ∃ y : MV, y.cells = l ∧ ElF P e y := by
            cases hue : P.underlying e with
            | none => 
              have hk1 : P.cellsOf e = 1 := by have := hot.2; rw [hue] at this; exact Nat.eq_of_beq_eq_true this
              match l, hll.trans hk1 with
              | [y], _ =>
                have := r4 y (List.mem_cons_self ..)
                simp only [ElF, hue]
                refine ⟨y, ?_, ?_⟩ <;> (cases y <;> first | rfl | (cases this; done))
            | some d =>
              cases d with
              | struct fs => exact ⟨.agg l, rfl, by simp only [ElF, hue]; rfl⟩
              | _ =>
                have hk1 : P.cellsOf e = 1 := by have := hot.2; rw [hue] at this; exact Nat.eq_of_beq_eq_true this
                match l, hll.trans hk1 with
                | [y], _ =>
                  have := r4 y (List.mem_cons_self ..)
                  simp only [ElF, hue]
                  refine ⟨y, ?_, ?_⟩ <;> (cases y <;> first | rfl | (cases this; done))
          refine ⟨xs ++ [y], us ++ us', max k k', by simp [q1], by rw [List.length_append, q2, r1, Nat.add_mul]; omega, ?_, ?_, ?_, ?_⟩
          · rw [flat_append]
            refine q3.append ?_
            simp only [flat, List.flatMap_cons, List.flatMap_nil, List.append_nil, hy1]
            exact r2
          · intro z hz
            rw [flat_append, List.mem_append] at hz
            rcases hz with hz | hz
            · exact q4 z hz
            · simp only [flat, List.flatMap_cons, List.flatMap_nil, List.append_nil, hy1] at hz
              exact r4 z hz
          · intro x hx
            rcases List.mem_append.1 hx with hx | hx
            · exact ⟨(q5 x hx).1, tyM_le (by omega) (q5 x hx).2.1, (q5 x hx).2.2⟩
            · simp at hx
              subst hx
              rw [hy1]
              exact ⟨hll, tyM_le (by omega) r3, hy2⟩
          · intro j hj
            rw [Nat.add_mul, Nat.one_mul] at hj
            by_cases hjl : j < N * P.cellsOf e
            · rw [List.getElem?_append_left (by omega)]
              exact q6 j hjl
            · rw [List.getElem?_append_right (by omega), q2, ← r5 (j - N * P.cellsOf e) (by omega), Go.MV.add_add]
              congr 2
              omega
      obtain ⟨xs, us, k, q1, q2, q3, q4, q5, q6⟩ := hall len (Nat.le_refl _)
      refine ⟨[.lst none (P.cellsOf e) xs], k + 1, .cons (.lst' q1 hl hm (fun x hx => (q5 x hx).1) q3 (fun j u hu => ⟨a, rfl, stab0 ?_ ?_⟩) (fun t ht => by cases ht)) (.nil _ _), ?_, by simp [MV.one]⟩
      · have hj : j < us.length := (List.getElem?_eq_some_iff.1 hu).1
        rw [q6 j (by omega)]
        exact hu
      · have hj : j < us.length := (List.getElem?_eq_some_iff.1 hu).1
        have hjf : j < (flat xs).length := by rw [← q3.1]; exact hj
        exact one_cell (q3.2 j _ u (List.getElem?_eq_getElem hjf) hu) (q4 _ (List.getElem_mem hjf))
      · unfold TyM
        rw [hu]
        exact ⟨xs, rfl, q5⟩
  · rename_i fs hu
    simp only [Bool.and_eq_true, List.all_eq_true] at hot
    obtain ⟨xs, n', rfl, rfl, hlen, hxl, hf⟩ := DataW.trod_struct hu h
    have hfld : ∀ f ∈ fs.toList, ∃ (k : Nat) (l : List MV), Rds (g0 W) W l ((cs.drop f.offset).take (P.cellsOf f.type)) ∧ TyM P k f.type l ∧ ∀ y ∈ l, y.one = true := by
      intro f hfm
      obtain ⟨i, hi⟩ := List.getElem?_of_mem hfm
      have hi' : fs[i]? = some f := by simpa using hi
      have hilt : i < xs.length := by rw [hxl]; exact (Array.getElem?_eq_some_iff.1 hi').1
      have htr := hf i f hi'
      rw [List.getElem?_eq_getElem hilt] at htr
      have hsz : SizeOf.sizeOf xs[i].1 < n := by
        have hmem : xs[i].1 ∈ xs.map (·.1) := List.mem_map.2 ⟨xs[i], List.getElem_mem hilt, rfl⟩
        have := List.sizeOf_lt_of_mem hmem
        simp only [DataW.agg.sizeOf_spec] at hx
        omega
      obtain ⟨l, k, h1, h2, h3⟩ := ih _ hsz xs[i] n' f.type _ (Nat.le_refl _) (natMem_iff.1 (hot.1 f hfm)) htr
      exact ⟨k, l, h1, h2, h3⟩
    obtain ⟨K, hK⟩ := common_bound (p := fun k (f : Field) => ∃ l : List MV, Rds (g0 W) W l ((cs.drop f.offset).take (P.cellsOf f.type)) ∧ TyM P k f.type l ∧ ∀ y ∈ l, y.one = true) (fun a b f hab ⟨l, h1, h2, h3⟩ => ⟨l, h1, tyM_le hab h2, h3⟩) fs.toList hfld
    have hcont := hot.2
    have hlens : ∀ (gs : List Field) (off : Nat), contig P (P.cellsOf t) gs off = true → off ≤ P.cellsOf t ∧ ∀ f ∈ gs, f.offset + P.cellsOf f.type ≤ P.cellsOf t := by
      intro gs
      induction gs with
      | nil => exact fun off hc => ⟨Nat.le_of_eq (Nat.eq_of_beq_eq_true hc), fun f hf => by cases hf⟩
      | cons f gs ihg =>
        intro off hc
        simp only [contig, Bool.and_eq_true] at hc
        have ho := Nat.eq_of_beq_eq_true hc.1
        obtain ⟨h1, h2⟩ := ihg _ hc.2
        refine ⟨by omega, fun f' hf' => ?_⟩
        rcases List.mem_cons.1 hf' with rfl | hf'
        · omega
        · exact h2 f' hf'
    obtain ⟨l, h1, h2, h3⟩ := rds_of_fields (P := P) (W := W) (T := TyM P K) hlen fs.toList 0 hcont (fun f hfm => by
      obtain ⟨l, h1, h2, h3⟩ := hK f hfm
      refine ⟨l, h1, h2, ?_, h3⟩
      have := (hlens _ _ hcont).2 f hfm
      rw [← h1.1, List.length_take, List.length_drop, hlen]
      omega)
    refine ⟨l, K + 1, by simpa using h1, ?_, h3⟩
    unfold TyM
    rw [hu]
    exact h2
  · cases hot
end
section
variable {H : Type} {enc : TypeId × Value → H} {P : Program} {W : World} {base b0 : Nat} {spare : Nat → Bool} {held : Bool} {r : Reach}
theorem arg_one {ts : List TypeId} (hok : okTypes P ts = true) {t : TypeId} (ht : t ∈ ts) {v : Value} {d : DataW H} {p : List MemPlace} (hv : v.cells = #[v]) (h : DataW.Trod enc P W base spare held t v d p) :
    ∃ (l : List MV) (m : Nat), Rds (g0 W) W l [v] ∧ TyM P m t l := by
  obtain ⟨fuel, hf⟩ := h
  rw [hv] at hf
  obtain ⟨l, m, h1, h2, _⟩ := reads_gen hok _ _ _ _ _ (Nat.le_refl _) ht hf
  exact ⟨l, m, h1, h2⟩
end
theorem law_calls {P : Program} {f : FuncId} {xs : List MV} {W : World} {vs : List Value} (h : MCalls P f xs [] fun v σ' => v = .bool true ∧ σ' = []) (hr : Rds (g0 W) W xs vs) : Calls P f vs.toArray W fun e w' => e = .returned (.bool true) ∧ Below W.heap.size W w' := by
  refine (callsIn_wide.1 (h (g0 W) W vs (rel0 W) hr)).mono ?_
  rintro e w' ⟨v, rfl, x, σ', g', ⟨rfl, rfl⟩, hrel, hrd, hle⟩
  rw [hrd.inv_bool]
  have := hrel.below
  rw [hle.B, hle.w0] at this
  exact ⟨rfl, this⟩
end Go.MV
end
section
set_option linter.unusedVariables false
set_option linter.unusedSimpArgs false
namespace Go.MV
open Go Go.RowKit Go.WideShapes Go.ChangeShapes
section
variable {H : Type} {enc : TypeId × Value → H} {P : Program} {W : World} {base b0 : Nat} {spare : Nat → Bool} {held : Bool} {r : Reach} {ts : List TypeId} {t : TypeId} {v : Value} {d : DataW H} {p : List MemPlace}
theorem tyM_intK {k : IntKind} (hu : P.underlying t = some (.int k)) {n : Nat} {l : List MV} (h : TyM P n t l) : ∃ v, l = [.int k v] ∧ (Lit.int k v).wf = true := by
  cases n with
  | zero => exact h.elim
  | succ n => unfold TyM at h; rw [hu] at h; exact h
theorem tyM_slice {e : TypeId} (hu : P.underlying t = some (.slice e)) {n : Nat} {l : List MV} (h : TyM P n t l) : ∃ xs m, m + 1 = n ∧ l = [.lst none (P.cellsOf e) xs] ∧ ∀ x ∈ xs, x.cells.length = P.cellsOf e ∧ TyM P m e x.cells ∧ ElF P e x := by
  cases n with
  | zero => exact h.elim
  | succ n =>
    unfold TyM at h; rw [hu] at h
    obtain ⟨xs, h1, h2⟩ := h
    exact ⟨xs, n, rfl, h1, h2⟩
theorem tyM_struct {fs : Array Field} (hu : P.underlying t = some (.struct fs)) {n : Nat} {l : List MV} (h : TyM P n t l) : ∃ m, m + 1 = n ∧ TyFs (TyM P m) fs.toList l := by
  cases n with
  | zero => exact h.elim
  | succ n => unfold TyM at h; rw [hu] at h; exact ⟨n, rfl, h⟩
theorem all_enc {α : Type} {enc : α → MV} {q : α → Prop} : ∀ {xs : List MV}, (∀ x ∈ xs, ∃ a, x = enc a ∧ q a) → ∃ l : List α, xs = l.map enc ∧ ∀ a ∈ l, q a
  | [], _ => ⟨[], rfl, fun a h => by cases h⟩
  | x :: xs, h => by
    obtain ⟨l, rfl, hl⟩ := all_enc (fun y hy => h y (List.mem_cons_of_mem _ hy))
    obtain ⟨a, rfl, ha⟩ := h x (List.mem_cons_self ..)
    refine ⟨a :: l, rfl, fun b hb => ?_⟩
    rcases List.mem_cons.1 hb with rfl | hb
    · exact ha
    · exact hl b hb
theorem rd_of_rds {g : Gh} {w : World} {m : MV} {v : Value} (h : Rds g w [m] [v]) : Rd g w m v := h.2 0 _ _ rfl rfl
theorem arg_slice {e : TypeId} {α : Type} {en : α → MV} {q : α → Prop} (hok : okTypes P ts = true) (ht : t ∈ ts) (hu : P.underlying t = some (.slice e)) (hel : ∀ m x, x.cells.length = P.cellsOf e → TyM P m e x.cells → ElF P e x → ∃ a, x = en a ∧ q a)
    (hv : Value.okWide P W r b0 t v) (h : DataW.Trod enc P W base spare held t v d p) : ∃ l : List α, Rd (g0 W) W (.lst none (P.cellsOf e) (l.map en)) v ∧ (∀ a ∈ l, q a) ∧ l.length ≤ maxLen := by
  obtain ⟨a, n, c, rfl⟩ := okWide_slice hu hv
  obtain ⟨l, m, h1, h2⟩ := arg_one hok ht rfl h
  obtain ⟨xs, m, _, rfl, hx⟩ := tyM_slice hu h2
  obtain ⟨l, rfl, hl⟩ := all_enc (fun x hx' => hel m x (hx x hx').1 (hx x hx').2.1 (hx x hx').2.2)
  refine ⟨l, rd_of_rds h1, hl, ?_⟩
  obtain ⟨_, _, _, _, h3, h4, _⟩ := (rd_of_rds h1).inv_lst
  have := Nat.le_trans h3 h4
  rwa [List.length_map] at this
theorem wf_u64 {n : Int} (h : (Lit.int .u64 n).wf = true) : ∃ m : Nat, n = (m : Int) ∧ m < 18446744073709551616 := by
  simp [Lit.wf, IntKind.min, IntKind.max, IntKind.signed, IntKind.bits] at h
  exact ⟨n.toNat, by omega, by omega⟩
end
end Go.MV
end
section
set_option linter.unusedVariables false
set_option linter.unusedSimpArgs false
set_option maxRecDepth 20000
namespace Go.Proofs.YtlooahbfpmigfaaGreat
open Go Go.MV
theorem cells_tick : Tryz.prog.cellsOf 72 = 2 := by kernel_rfl
theorem tyM_tick {m : Nat} {l : List MV} (h : TyM Tryz.prog m 72 l) : ∃ a : Tk, MV.agg l = encT a ∧ (0 ≤ a.2 ∧ a.2 < 18446744073709551616) := by
  obtain ⟨m', _, h⟩ := tyM_struct Tryz.underlying72 h
  obtain ⟨a, _, rfl, h1, b, _, rfl, h2, rfl⟩ := h
  obtain ⟨w, rfl, _⟩ := tyM_intK Tryz.underlying3 h1
  obtain ⟨n, rfl, hw⟩ := tyM_intK Tryz.underlying24 h2
  obtain ⟨k, rfl, hk⟩ := wf_u64 hw
  exact ⟨(w, k), rfl, by dsimp only; omega, by dsimp only; omega⟩
theorem el_tick (m : Nat) (x : MV) (_ : x.cells.length = Tryz.prog.cellsOf 72) (h : TyM Tryz.prog m 72 x.cells) (he : ElF Tryz.prog 72 x) : ∃ a : Tk, x = encT a ∧ (0 ≤ a.2 ∧ a.2 < 18446744073709551616) := by
  obtain ⟨a, e, ha⟩ := tyM_tick h
  simp only [ElF, Tryz.underlying72] at he
  exact ⟨a, he.trans e, ha⟩
theorem arg_clock {ts : List TypeId} (hok : okTypes Tryz.prog ts = true) (ht : 44 ∈ ts) {H : Type} {enc : TypeId × Value → H} {W : World} {base b0 : Nat} {spare : Nat → Bool} {held : Bool} {r : Reach} {v : Value} {d : DataW H} {p : List MemPlace} (hv : Value.okWide Tryz.prog W r b0 44 v) (h : DataW.Trod enc Tryz.prog W base spare held 44 v d p) :
    ∃ c : List Tk, Rd (g0 W) W (.lst none 2 (c.map encT)) v ∧ (∀ t ∈ c, 0 ≤ t.2 ∧ t.2 < 18446744073709551616) ∧ c.length ≤ maxLen := by
  obtain ⟨c, h1, h2, h3⟩ := arg_slice (en := encT) hok ht Tryz.underlying44 el_tick hv h
  rw [cells_tick] at h1
  exact ⟨c, h1, h2, h3⟩
end Go.Proofs.YtlooahbfpmigfaaGreat
end
