/-
  Texts on which the proof of PartsVersions leans: part 5.
-/
import Derived.Test.YtnfcnpdpfgcchaaGreatPartsVersionsD
import Derived.WalkKit
import Derived.LaidEql
import Derived.RowKitTokens
import Derived.Laws.MakeOwn
import Derived.Laws.IdiomStrings
import Derived.Deep.Slices
import Derived.ChangeSame
import Derived.ProofKit
import Derived.OpenShut
import Derived.ChangeOld
import Derived.SizedLaws
import Derived.Carry
section
set_option linter.unusedVariables false
set_option linter.unusedSimpArgs false
set_option maxRecDepth 20000
set_option maxHeartbeats 400000
namespace Go.Proofs.YtnfcnpdpfgcchaaGreat
open Go Go.MV
theorem max_if (a b : Int) : (if b > a then b else a) = max a b := by split <;> omega
theorem isV3 {ins : List Sch} {n m : Int} {s : List Bs} {c : List (List Tk)} {w : List Val} (h : isVF (.mk 3 ins) (.mk n m s c w) = true) : s.length ≤ 40 := by
 rw [isVF_mk 3] at h; simp [isRowF] at h; omega
theorem isV4 {t : Sch} {n m : Int} {s : List Bs} {c : List (List Tk)} {w : List Val} (h : isVF (.mk 4 [t]) (.mk n m s c w) = true) : s.length ≤ 40 ∧ s.length = w.length ∧ ∀ x ∈ w, isVF t x = true := by
 rw [isVF_mk 4] at h
 simp only [Int.reduceEq, if_false, if_true, isVL, List.headD_cons, Bool.and_eq_true, decide_eq_true_eq, List.all_eq_true, isRowF] at h
 exact ⟨h.2.1.1.1.1, h.2.1.2, fun x hx => (h.2.2 x hx).1⟩
theorem isV5 {t u : Sch} {n m : Int} {s : List Bs} {c : List (List Tk)} {w : List Val} (h : isVF (.mk 5 [t, u]) (.mk n m s c w) = true) : ∃ x y, w = [x, y] ∧ isVF t x = true ∧ isVF u y = true := by
 rw [isVF_mk 5] at h
 match w, h with
 | [], h => simp at h
 | [_], h => simp at h
 | [x, y], h => exact ⟨x, y, rfl, by simp [isVL] at h; exact h.2⟩
 | _ :: _ :: _ :: _, h => simp at h
theorem isV7 {ins : List Sch} {n m : Int} {s : List Bs} {c : List (List Tk)} {w : List Val} (h : isVF (.mk 7 ins) (.mk n m s c w) = true) : ∀ x ∈ c, x.length ≤ 40 := by
 rw [isVF_mk 7] at h
 match c, h with
 | [], _ => simp
 | [x], h => simp [isClockF] at h; simp; omega
 | _ :: _ :: _, h => simp at h
theorem isV8 {t : Sch} {n m : Int} {s : List Bs} {c : List (List Tk)} {w : List Val} (h : isVF (.mk 8 [t]) (.mk n m s c w) = true) : c.length ≤ 40 ∧ c.length = w.length ∧ (∀ x ∈ c, x.length ≤ 40) ∧ ∀ x ∈ w, isVF t x = true := by
 rw [isVF_mk 8] at h
 simp only [Int.reduceEq, if_false, isVL, List.headD_cons, Bool.and_eq_true, decide_eq_true_eq, List.all_eq_true, isCauseF, isClockF] at h
 refine ⟨h.1.2, h.2.1.1, fun x hx => ?_, fun x hx => h.2.2 x hx⟩
 have := h.2.1.2.1 x hx
 omega
theorem both_spec (d : Nat) : ∀ (t : Sch), isF d t = true → ∀ (a b : Val), isVF t a = true → isVF t b = true → ∀ S : MS, MCalls Tryz.prog 83 [encS t, encV a, encV b] S fun v σ' => v = encO (bothF t a b) ∧ σ' = S := by
 induction d with
 | zero => intro s h; simp [isF] at h
 | succ d ih =>
 rintro ⟨k, ins⟩ hd ⟨n1, m1, s1, c1, w1⟩ ⟨n2, m2, s2, c2, w2⟩ ha hb S
 rw [isF] at hd
 simp only [Bool.and_eq_true, List.all_eq_true, beq_iff_eq] at hd
 rcases k8_of hd.1 with rfl | rfl | rfl | rfl | rfl | rfl | rfl | rfl
 ·
  have hB : bothB 1 (bothL ins) (.mk n1 m1 s1 c1 w1) (.mk n2 m2 s2 c2 w2) = some (.mk (max n1 n2) 0 [] [] []) := rfl
  refine mcalls_body Tryz.func83 rfl Tryz.ntmps83 (Nat.le_of_ble_eq_true rfl) ?_
  refine mwp_seq <| qR rfl <| qB rfl rfl rfl rfl rfl <| qB rfl rfl rfl rfl rfl <| qB rfl rfl rfl rfl rfl <| qO rfl <| op_alloc' rfl zm30 rfl rfl <| qA rfl rfl rfl <| qN <| mwp_seq <| mwp_seq <| qR rfl <| qF rfl rfl rfl fo24_0 <| qL rfl rfl rfl rfl ta3 rfl <| qN <| mwp_block <| mwp_seq <| mwp_seq <| qR rfl <| qC rfl rfl rfl rfl rfl <| qA rfl rfl rfl <| qN ?_
  refine mwp_cond_t rfl (rfl) <| mwp_skip <| mwp_cond_t rfl (rfl) <| qR rfl <| qF rfl rfl rfl fo30_0 <| qL rfl rfl rfl rfl ta25 rfl <| qF rfl rfl rfl fo30_0 <| qL rfl rfl rfl rfl ta25 rfl <| qO rfl <| op_max2' rfl rfl rfl (max_if n1 n2) <| qF rfl rfl rfl fo30_0 <| qO rfl <| op_store' rfl rfl rfl rfl sz25 rfl rfl (Nat.le_of_ble_eq_true rfl) rfl <| qN <| mwp_seq <| mwp_seq <| qR rfl <| qM rfl rfl rfl <| qO rfl <| op_if0 rfl Tryz.underlying34 rfl rfl (.inl ⟨rfl, rfl⟩) <| qM rfl rfl rfl <| qO rfl <| op_viewTo (y := encV (.mk (max n1 n2) 0 [] [] [])) (op_load' rfl rfl rfl ta30 rfl ⟨rfl, rfl⟩) (.agg (.cons (.refl _) (.cons (.refl _) (.cons (.nil 1) (.cons (.nil 1) (.cons (.nil 5) .nil)))))) ?_
  refine wOps_op rfl (op_call rfl rfl rfl co107 ((isLarge_spec (max n1 n2) 0 [] [] [] _).mono ?_))
  rintro _ _ ⟨rfl, rfl⟩
  refine qP rfl rfl rfl rfl <| qN ?_
  refine mwp_cond_split rfl (fun h69 => ?_) (fun h69 => ?_)
  ·
   refine qR rfl <| qO rfl <| op_makeInterface rfl rfl Tryz.underlying58 (by simp) ?_
   refine qA rfl rfl rfl <| qN <| mwp_seq <| mwp_seq <| qR rfl <| qM rfl rfl rfl <| qO rfl <| op_ifnil rfl Tryz.underlying34 rfl rfl (.inr ⟨rfl, rfl⟩) <| qN <| mwp_cond_t rfl (rfl) <| mwp_seq <| qR rfl <| qO rfl <| op_build rfl Tryz.underlying30 zm30 .nil (by kernel_rfl) ?_
   refine qM rfl rfl rfl <| qO rfl <| op_store' rfl rfl rfl rfl sz30 rfl rfl (Nat.le_of_ble_eq_true rfl) rfl <| qA rfl rfl rfl <| qN <| mwp_ret ?_
   exact ret_cell_tmp (.inr rfl) Tryz.results83 rfl rfl ta30 rfl (.agg (.cons (.refl _) (.cons (.refl _) (.cons (.nil 1) (.cons (.nil 1) (.cons (.nil 5) .nil)))))) (cl_encV _ (noV)) rfl (.refl _) (.iface _ _ (.int _ _)) ⟨by rw [bothF_mk, hB, cap_t h69]; rfl, rfl⟩
  ·
   refine mwp_skip <| mwp_seq <| mwp_seq <| qR rfl <| qM rfl rfl rfl <| qO rfl <| op_if0 rfl Tryz.underlying34 rfl rfl (.inr ⟨rfl, rfl⟩) <| qN <| mwp_cond_f rfl (rfl) <| mwp_skip <| mwp_seq <| qR rfl <| qO rfl <| op_viewTo (y := encV (.mk (max n1 n2) 0 [] [] [])) (op_load' rfl rfl rfl ta30 rfl ⟨rfl, rfl⟩) (.agg (.cons (.refl _) (.cons (.refl _) (.cons (.nil 1) (.cons (.nil 1) (.cons (.nil 5) .nil)))))) <| qO rfl <| op_store' rfl rfl rfl rfl sz30 rfl rfl (Nat.le_of_ble_eq_true rfl) rfl <| qA rfl rfl rfl <| qN <| mwp_ret ?_
   exact ret_cell_tmp (.inr rfl) Tryz.results83 rfl rfl ta30 rfl (.refl _) (cl_encV _ (.mk (max n1 n2) 0 [] [] [])) rfl (.refl _) (.iface0) ⟨by rw [bothF_mk, hB, cap_f h69]; rfl, rfl⟩
 ·
  have hB : bothB 2 (bothL ins) (.mk n1 m1 s1 c1 w1) (.mk n2 m2 s2 c2 w2) = some (.mk (max n1 n2) 0 [] [] []) := rfl
  refine mcalls_body Tryz.func83 rfl Tryz.ntmps83 (Nat.le_of_ble_eq_true rfl) ?_
  refine mwp_seq <| qR rfl <| qB rfl rfl rfl rfl rfl <| qB rfl rfl rfl rfl rfl <| qB rfl rfl rfl rfl rfl <| qO rfl <| op_alloc' rfl zm30 rfl rfl <| qA rfl rfl rfl <| qN <| mwp_seq <| mwp_seq <| qR rfl <| qF rfl rfl rfl fo24_0 <| qL rfl rfl rfl rfl ta3 rfl <| qN <| mwp_block <| mwp_seq <| mwp_seq <| qR rfl <| qC rfl rfl rfl rfl rfl <| qA rfl rfl rfl <| qN ?_
  refine mwp_cond_f rfl (rfl) <| qR rfl <| qC rfl rfl rfl rfl rfl <| qA rfl rfl rfl <| qN <| mwp_cond_t rfl (rfl) <| qR rfl <| qF rfl rfl rfl fo30_0 <| qL rfl rfl rfl rfl ta25 rfl <| qF rfl rfl rfl fo30_0 <| qL rfl rfl rfl rfl ta25 rfl <| qO rfl <| op_max2' rfl rfl rfl (max_if n1 n2) <| qF rfl rfl rfl fo30_0 <| qO rfl <| op_store' rfl rfl rfl rfl sz25 rfl rfl (Nat.le_of_ble_eq_true rfl) rfl <| qN <| mwp_seq <| mwp_seq <| qR rfl <| qM rfl rfl rfl <| qO rfl <| op_if0 rfl Tryz.underlying34 rfl rfl (.inl ⟨rfl, rfl⟩) ?_
  refine qM rfl rfl rfl <| qO rfl <| op_viewTo (y := encV (.mk (max n1 n2) 0 [] [] [])) (op_load' rfl rfl rfl ta30 rfl ⟨rfl, rfl⟩) (.agg (.cons (.refl _) (.cons (.refl _) (.cons (.nil 1) (.cons (.nil 1) (.cons (.nil 5) .nil)))))) ?_
  refine wOps_op rfl (op_call rfl rfl rfl co107 ((isLarge_spec (max n1 n2) 0 [] [] [] _).mono ?_))
  rintro _ _ ⟨rfl, rfl⟩
  refine qP rfl rfl rfl rfl <| qN ?_
  refine mwp_cond_split rfl (fun h69 => ?_) (fun h69 => ?_)
  ·
   refine qR rfl <| qO rfl <| op_makeInterface rfl rfl Tryz.underlying58 (by simp) ?_
   refine qA rfl rfl rfl <| qN <| mwp_seq <| mwp_seq <| qR rfl <| qM rfl rfl rfl <| qO rfl <| op_ifnil rfl Tryz.underlying34 rfl rfl (.inr ⟨rfl, rfl⟩) <| qN <| mwp_cond_t rfl (rfl) <| mwp_seq <| qR rfl <| qO rfl <| op_build rfl Tryz.underlying30 zm30 .nil (by kernel_rfl) ?_
   refine qM rfl rfl rfl <| qO rfl <| op_store' rfl rfl rfl rfl sz30 rfl rfl (Nat.le_of_ble_eq_true rfl) rfl <| qA rfl rfl rfl <| qN <| mwp_ret ?_
   exact ret_cell_tmp (.inr rfl) Tryz.results83 rfl rfl ta30 rfl (.agg (.cons (.refl _) (.cons (.refl _) (.cons (.nil 1) (.cons (.nil 1) (.cons (.nil 5) .nil)))))) (cl_encV _ (noV)) rfl (.refl _) (.iface _ _ (.int _ _)) ⟨by rw [bothF_mk, hB, cap_t h69]; rfl, rfl⟩
  ·
   refine mwp_skip <| mwp_seq <| mwp_seq <| qR rfl <| qM rfl rfl rfl <| qO rfl <| op_if0 rfl Tryz.underlying34 rfl rfl (.inr ⟨rfl, rfl⟩) <| qN <| mwp_cond_f rfl (rfl) <| mwp_skip <| mwp_seq <| qR rfl <| qO rfl <| op_viewTo (y := encV (.mk (max n1 n2) 0 [] [] [])) (op_load' rfl rfl rfl ta30 rfl ⟨rfl, rfl⟩) (.agg (.cons (.refl _) (.cons (.refl _) (.cons (.nil 1) (.cons (.nil 1) (.cons (.nil 5) .nil)))))) <| qO rfl <| op_store' rfl rfl rfl rfl sz30 rfl rfl (Nat.le_of_ble_eq_true rfl) rfl <| qA rfl rfl rfl <| qN <| mwp_ret ?_
   exact ret_cell_tmp (.inr rfl) Tryz.results83 rfl rfl ta30 rfl (.refl _) (cl_encV _ (.mk (max n1 n2) 0 [] [] [])) rfl (.refl _) (.iface0) ⟨by rw [bothF_mk, hB, cap_f h69]; rfl, rfl⟩
 ·
  have b1 := isV3 ha
  have b2 := isV3 hb
  have hB : bothB 3 (bothL ins) (.mk n1 m1 s1 c1 w1) (.mk n2 m2 s2 c2 w2) = some (.mk 0 0 (bothX s1 s2) [] []) := rfl
  refine mcalls_body Tryz.func83 rfl Tryz.ntmps83 (Nat.le_of_ble_eq_true rfl) ?_
  refine mwp_seq <| qR rfl <| qB rfl rfl rfl rfl rfl <| qB rfl rfl rfl rfl rfl <| qB rfl rfl rfl rfl rfl <| qO rfl <| op_alloc' rfl zm30 rfl rfl <| qA rfl rfl rfl <| qN <| mwp_seq <| mwp_seq <| qR rfl <| qF rfl rfl rfl fo24_0 <| qL rfl rfl rfl rfl ta3 rfl <| qN <| mwp_block <| mwp_seq <| mwp_seq <| qR rfl <| qC rfl rfl rfl rfl rfl <| qA rfl rfl rfl <| qN ?_
  refine mwp_cond_f rfl (rfl) <| qR rfl <| qC rfl rfl rfl rfl rfl <| qA rfl rfl rfl <| qN <| mwp_cond_f rfl (rfl) <| mwp_seq <| qR rfl <| qC rfl rfl rfl rfl rfl <| qA rfl rfl rfl <| qN <| mwp_cond_t rfl (rfl) <| qR rfl <| qF rfl rfl rfl fo30_2 <| qL rfl rfl rfl rfl ta26 rfl <| qF rfl rfl rfl fo30_2 <| qL rfl rfl rfl rfl ta26 rfl ?_
  refine wOps_op rfl (op_call rfl rfl rfl co101 ((rowsBoth_spec s1 s2 (by omega) _).mono ?_))
  rintro _ _ ⟨rfl, rfl⟩
  refine qF rfl rfl rfl fo30_2 <| qO rfl <| op_store' rfl rfl rfl rfl sz26 rfl rfl (Nat.le_of_ble_eq_true rfl) rfl <| qN <| mwp_seq <| mwp_seq <| qR rfl <| qM rfl rfl rfl <| qO rfl <| op_if0 rfl Tryz.underlying34 rfl rfl (.inl ⟨rfl, rfl⟩) <| qM rfl rfl rfl <| qO rfl <| op_viewTo (y := encV (.mk 0 0 (bothX s1 s2) [] [])) (op_load' rfl rfl rfl ta30 rfl ⟨rfl, rfl⟩) (.agg (.cons (.refl _) (.cons (.refl _) (.cons (.refl _) (.cons (.nil 1) (.cons (.nil 5) .nil)))))) ?_
  refine wOps_op rfl (op_call rfl rfl rfl co107 ((isLarge_spec 0 0 (bothX s1 s2) [] [] _).mono ?_))
  rintro _ _ ⟨rfl, rfl⟩
  refine qP rfl rfl rfl rfl <| qN ?_
  refine mwp_cond_split rfl (fun h69 => ?_) (fun h69 => ?_)
  ·
   refine qR rfl <| qO rfl <| op_makeInterface rfl rfl Tryz.underlying58 (by simp) ?_
   refine qA rfl rfl rfl <| qN <| mwp_seq <| mwp_seq <| qR rfl <| qM rfl rfl rfl <| qO rfl <| op_ifnil rfl Tryz.underlying34 rfl rfl (.inr ⟨rfl, rfl⟩) <| qN <| mwp_cond_t rfl (rfl) <| mwp_seq <| qR rfl <| qO rfl <| op_build rfl Tryz.underlying30 zm30 .nil (by kernel_rfl) ?_
   refine qM rfl rfl rfl <| qO rfl <| op_store' rfl rfl rfl rfl sz30 rfl rfl (Nat.le_of_ble_eq_true rfl) rfl <| qA rfl rfl rfl <| qN <| mwp_ret ?_
   exact ret_cell_tmp (.inr rfl) Tryz.results83 rfl rfl ta30 rfl (.agg (.cons (.refl _) (.cons (.refl _) (.cons (.nil 1) (.cons (.nil 1) (.cons (.nil 5) .nil)))))) (cl_encV _ (noV)) rfl (.refl _) (.iface _ _ (.int _ _)) ⟨by rw [bothF_mk, hB, cap_t h69]; rfl, rfl⟩
  ·
   refine mwp_skip <| mwp_seq <| mwp_seq <| qR rfl <| qM rfl rfl rfl <| qO rfl <| op_if0 rfl Tryz.underlying34 rfl rfl (.inr ⟨rfl, rfl⟩) <| qN <| mwp_cond_f rfl (rfl) <| mwp_skip <| mwp_seq <| qR rfl <| qO rfl <| op_viewTo (y := encV (.mk 0 0 (bothX s1 s2) [] [])) (op_load' rfl rfl rfl ta30 rfl ⟨rfl, rfl⟩) (.agg (.cons (.refl _) (.cons (.refl _) (.cons (.refl _) (.cons (.nil 1) (.cons (.nil 5) .nil)))))) <| qO rfl <| op_store' rfl rfl rfl rfl sz30 rfl rfl (Nat.le_of_ble_eq_true rfl) rfl <| qA rfl rfl rfl <| qN <| mwp_ret ?_
   exact ret_cell_tmp (.inr rfl) Tryz.results83 rfl rfl ta30 rfl (.refl _) (cl_encV _ (.mk 0 0 (bothX s1 s2) [] [])) rfl (.refl _) (.iface0) ⟨by rw [bothF_mk, hB, cap_f h69]; rfl, rfl⟩
 ·
  obtain ⟨⟨k1, i1⟩, rfl⟩ := one_ins hd.1 (by decide)
  have ih1 := ih (.mk k1 i1) (hd.2 _ (by simp))
  obtain ⟨p1, p2, p3⟩ := isV4 ha
  obtain ⟨q1, q2, q3⟩ := isV4 hb
  have hof := maps_spec 4 k1 i1 [] (bothF (.mk k1 i1)) n1 m1 s1 c1 w1 n2 m2 s2 c2 w2 p2 q2 p1 q1 (fun x hx y hy => ih1 x y (p3 x hx) (q3 y hy))
  have hBq : bothB 4 (bothL [.mk k1 i1]) (.mk n1 m1 s1 c1 w1) (.mk n2 m2 s2 c2 w2) = mapsF (bothF (.mk k1 i1)) (.mk n1 m1 s1 c1 w1) (.mk n2 m2 s2 c2 w2) := rfl
  rcases hO : mapsF (bothF (.mk k1 i1)) (.mk n1 m1 s1 c1 w1) (.mk n2 m2 s2 c2 w2) with _ | ⟨⟨n3, m3, s3, c3, w3⟩⟩ <;> rw [hO] at hof hBq
  ·
   refine mcalls_body Tryz.func83 rfl Tryz.ntmps83 (Nat.le_of_ble_eq_true rfl) ?_
   refine mwp_seq <| qR rfl <| qB rfl rfl rfl rfl rfl <| qB rfl rfl rfl rfl rfl <| qB rfl rfl rfl rfl rfl <| qO rfl <| op_alloc' rfl zm30 rfl rfl <| qA rfl rfl rfl <| qN <| mwp_seq <| mwp_seq <| qR rfl <| qF rfl rfl rfl fo24_0 <| qL rfl rfl rfl rfl ta3 rfl <| qN <| mwp_block <| mwp_seq <| mwp_seq <| qR rfl <| qC rfl rfl rfl rfl rfl <| qA rfl rfl rfl <| qN ?_
   refine mwp_cond_f rfl (rfl) <| qR rfl <| qC rfl rfl rfl rfl rfl <| qA rfl rfl rfl <| qN <| mwp_cond_f rfl (rfl) <| mwp_seq <| qR rfl <| qC rfl rfl rfl rfl rfl <| qA rfl rfl rfl <| qN <| mwp_cond_f rfl (rfl) <| mwp_seq <| qR rfl <| qC rfl rfl rfl rfl rfl <| qA rfl rfl rfl <| qN <| mwp_cond_t rfl (rfl) <| qR rfl <| qL rfl rfl rfl rfl ta24 rfl <| qL rfl rfl rfl rfl ta30 rfl <| qL rfl rfl rfl rfl ta30 rfl ?_
   refine wOps_op rfl (op_call rfl rfl rfl co102 ((hof _).mono ?_))
   rintro _ _ ⟨rfl, rfl⟩
   refine qM rfl rfl rfl <| qO rfl <| op_extract rfl rfl rfl <| qO rfl <| op_extract rfl rfl rfl <| qO rfl <| op_store' rfl rfl rfl rfl sz30 rfl rfl (Nat.le_of_ble_eq_true rfl) rfl <| qA rfl rfl rfl <| qN <| mwp_seq <| mwp_seq <| qR rfl <| qM rfl rfl rfl <| qO rfl <| op_ifnil rfl Tryz.underlying34 rfl rfl (.inl ⟨rfl, rfl⟩) <| qM rfl rfl rfl <| qS rfl <| qS rfl <| qP rfl rfl rfl rfl <| qN <| mwp_cond_f rfl (rfl) <| mwp_skip <| mwp_seq <| mwp_seq <| qR rfl ?_
   refine qM rfl rfl rfl <| qO rfl <| op_ifnil rfl Tryz.underlying34 rfl rfl (.inr ⟨rfl, rfl⟩) <| qN <| mwp_cond_t rfl (rfl) <| mwp_seq <| qR rfl <| qO rfl <| op_build rfl Tryz.underlying30 zm30 .nil (by kernel_rfl) ?_
   refine qM rfl rfl rfl <| qO rfl <| op_store' rfl rfl rfl rfl sz30 rfl rfl (Nat.le_of_ble_eq_true rfl) rfl <| qA rfl rfl rfl <| qN <| mwp_ret ?_
   exact ret_cell_tmp (.inr rfl) Tryz.results83 rfl rfl ta30 rfl (.agg (.cons (.refl _) (.cons (.refl _) (.cons (.nil 1) (.cons (.nil 1) (.cons (.nil 5) .nil)))))) (cl_encV _ (noV)) rfl (.refl _) (.iface _ _ (.int _ _)) ⟨by rw [bothF_mk, hBq]; rfl, rfl⟩
  ·
   refine mcalls_body Tryz.func83 rfl Tryz.ntmps83 (Nat.le_of_ble_eq_true rfl) ?_
   refine mwp_seq <| qR rfl <| qB rfl rfl rfl rfl rfl <| qB rfl rfl rfl rfl rfl <| qB rfl rfl rfl rfl rfl <| qO rfl <| op_alloc' rfl zm30 rfl rfl <| qA rfl rfl rfl <| qN <| mwp_seq <| mwp_seq <| qR rfl <| qF rfl rfl rfl fo24_0 <| qL rfl rfl rfl rfl ta3 rfl <| qN <| mwp_block <| mwp_seq <| mwp_seq <| qR rfl <| qC rfl rfl rfl rfl rfl <| qA rfl rfl rfl <| qN ?_
   refine mwp_cond_f rfl (rfl) <| qR rfl <| qC rfl rfl rfl rfl rfl <| qA rfl rfl rfl <| qN <| mwp_cond_f rfl (rfl) <| mwp_seq <| qR rfl <| qC rfl rfl rfl rfl rfl <| qA rfl rfl rfl <| qN <| mwp_cond_f rfl (rfl) <| mwp_seq <| qR rfl <| qC rfl rfl rfl rfl rfl <| qA rfl rfl rfl <| qN <| mwp_cond_t rfl (rfl) <| qR rfl <| qL rfl rfl rfl rfl ta24 rfl <| qL rfl rfl rfl rfl ta30 rfl <| qL rfl rfl rfl rfl ta30 rfl ?_
   refine wOps_op rfl (op_call rfl rfl rfl co102 ((hof _).mono ?_))
   rintro _ _ ⟨rfl, rfl⟩
   refine qM rfl rfl rfl <| qO rfl <| op_extract rfl rfl rfl <| qO rfl <| op_extract rfl rfl rfl <| qO rfl <| op_store' rfl rfl rfl rfl sz30 rfl rfl (Nat.le_of_ble_eq_true rfl) rfl <| qA rfl rfl rfl <| qN <| mwp_seq <| mwp_seq <| qR rfl <| qM rfl rfl rfl <| qO rfl <| op_if0 rfl Tryz.underlying34 rfl rfl (.inl ⟨rfl, rfl⟩) <| qM rfl rfl rfl <| qL rfl rfl rfl rfl ta30 rfl ?_
   refine wOps_op rfl (op_call rfl rfl rfl co107 ((isLarge_spec n3 m3 s3 c3 w3 _).mono ?_))
   rintro _ _ ⟨rfl, rfl⟩
   refine qP rfl rfl rfl rfl <| qN ?_
   refine mwp_cond_split rfl (fun h69 => ?_) (fun h69 => ?_)
   ·
    refine qR rfl <| qO rfl <| op_makeInterface rfl rfl Tryz.underlying58 (by simp) ?_
    refine qA rfl rfl rfl <| qN <| mwp_seq <| mwp_seq <| qR rfl <| qM rfl rfl rfl <| qO rfl <| op_ifnil rfl Tryz.underlying34 rfl rfl (.inr ⟨rfl, rfl⟩) <| qN <| mwp_cond_t rfl (rfl) <| mwp_seq <| qR rfl <| qO rfl <| op_build rfl Tryz.underlying30 zm30 .nil (by kernel_rfl) ?_
    refine qM rfl rfl rfl <| qO rfl <| op_store' rfl rfl rfl rfl sz30 rfl rfl (Nat.le_of_ble_eq_true rfl) rfl <| qA rfl rfl rfl <| qN <| mwp_ret ?_
    exact ret_cell_tmp (.inr rfl) Tryz.results83 rfl rfl ta30 rfl (.agg (.cons (.refl _) (.cons (.refl _) (.cons (.nil 1) (.cons (.nil 1) (.cons (.nil 5) .nil)))))) (cl_encV _ (noV)) rfl (.refl _) (.iface _ _ (.int _ _)) ⟨by rw [bothF_mk, hBq, cap_t h69]; rfl, rfl⟩
   ·
    refine mwp_skip <| mwp_seq <| mwp_seq <| qR rfl <| qM rfl rfl rfl <| qO rfl <| op_if0 rfl Tryz.underlying34 rfl rfl (.inr ⟨rfl, rfl⟩) <| qN <| mwp_cond_f rfl (rfl) <| mwp_skip <| mwp_seq <| qR rfl <| qL rfl rfl rfl rfl ta30 rfl <| qO rfl <| op_store' rfl rfl rfl rfl sz30 rfl rfl (Nat.le_of_ble_eq_true rfl) rfl <| qA rfl rfl rfl <| qN <| mwp_ret ?_
    exact ret_cell_tmp (.inr rfl) Tryz.results83 rfl rfl ta30 rfl (.refl _) (cl_encV _ (.mk n3 m3 s3 c3 w3)) rfl (.refl _) (.iface0) ⟨by rw [bothF_mk, hBq, cap_f h69]; rfl, rfl⟩
 ·
  obtain ⟨⟨k1, i1⟩, ⟨k2, i2⟩, rfl⟩ := two_of hd.1
  have ih1 := ih (.mk k1 i1) (hd.2 _ (by simp))
  have ih2 := ih (.mk k2 i2) (hd.2 _ (by simp))
  obtain ⟨x1, y1, rfl, p1, p2⟩ := isV5 ha
  obtain ⟨x2, y2, rfl, q1, q2⟩ := isV5 hb
  have hof := pairs_specJ 5 [.mk k1 i1, .mk k2 i2] (by simp) bothF n1 m1 s1 c1 [x1, y1] n2 m2 s2 c2 [x2, y2] rfl rfl (fun i s x y hs hx hy => by
   match i, hs, hx, hy with
   | 0, hs, hx, hy => simp at hs hx hy; subst hs hx hy; exact ih1 _ _ p1 q1
   | 1, hs, hx, hy => simp at hs hx hy; subst hs hx hy; exact ih2 _ _ p2 q2
   | i + 2, hs, _, _ => simp at hs)
  have hBq : bothB 5 (bothL [.mk k1 i1, .mk k2 i2]) (.mk n1 m1 s1 c1 [x1, y1]) (.mk n2 m2 s2 c2 [x2, y2]) = pairF2 ([.mk k1 i1, .mk k2 i2].map bothF) (.mk n1 m1 s1 c1 [x1, y1]) (.mk n2 m2 s2 c2 [x2, y2]) := by rw [bothL_eq]; rfl
  rcases hO : pairF2 ([.mk k1 i1, .mk k2 i2].map bothF) (.mk n1 m1 s1 c1 [x1, y1]) (.mk n2 m2 s2 c2 [x2, y2]) with _ | ⟨⟨n3, m3, s3, c3, w3⟩⟩ <;> rw [hO] at hof hBq
  ·
   refine mcalls_body Tryz.func83 rfl Tryz.ntmps83 (Nat.le_of_ble_eq_true rfl) ?_
   refine mwp_seq <| qR rfl <| qB rfl rfl rfl rfl rfl <| qB rfl rfl rfl rfl rfl <| qB rfl rfl rfl rfl rfl <| qO rfl <| op_alloc' rfl zm30 rfl rfl <| qA rfl rfl rfl <| qN <| mwp_seq <| mwp_seq <| qR rfl <| qF rfl rfl rfl fo24_0 <| qL rfl rfl rfl rfl ta3 rfl <| qN <| mwp_block <| mwp_seq <| mwp_seq <| qR rfl <| qC rfl rfl rfl rfl rfl <| qA rfl rfl rfl <| qN ?_
   refine mwp_cond_f rfl (rfl) <| qR rfl <| qC rfl rfl rfl rfl rfl <| qA rfl rfl rfl <| qN <| mwp_cond_f rfl (rfl) <| mwp_seq <| qR rfl <| qC rfl rfl rfl rfl rfl <| qA rfl rfl rfl <| qN <| mwp_cond_f rfl (rfl) <| mwp_seq <| qR rfl <| qC rfl rfl rfl rfl rfl <| qA rfl rfl rfl <| qN <| mwp_cond_f rfl (rfl) <| mwp_seq <| qR rfl <| qC rfl rfl rfl rfl rfl <| qA rfl rfl rfl ?_
   refine qN <| mwp_cond_t rfl (rfl) <| qR rfl <| qL rfl rfl rfl rfl ta24 rfl <| qL rfl rfl rfl rfl ta30 rfl <| qL rfl rfl rfl rfl ta30 rfl ?_
   refine wOps_op rfl (op_call rfl rfl rfl co103 ((hof _).mono ?_))
   rintro _ _ ⟨rfl, rfl⟩
   refine qM rfl rfl rfl <| qO rfl <| op_extract rfl rfl rfl <| qO rfl <| op_extract rfl rfl rfl <| qO rfl <| op_store' rfl rfl rfl rfl sz30 rfl rfl (Nat.le_of_ble_eq_true rfl) rfl <| qA rfl rfl rfl <| qN <| mwp_seq <| mwp_seq <| qR rfl <| qM rfl rfl rfl <| qO rfl <| op_ifnil rfl Tryz.underlying34 rfl rfl (.inl ⟨rfl, rfl⟩) <| qM rfl rfl rfl <| qS rfl <| qS rfl <| qP rfl rfl rfl rfl <| qN <| mwp_cond_f rfl (rfl) <| mwp_skip <| mwp_seq <| mwp_seq <| qR rfl ?_
   refine qM rfl rfl rfl <| qO rfl <| op_ifnil rfl Tryz.underlying34 rfl rfl (.inr ⟨rfl, rfl⟩) <| qN <| mwp_cond_t rfl (rfl) <| mwp_seq <| qR rfl <| qO rfl <| op_build rfl Tryz.underlying30 zm30 .nil (by kernel_rfl) ?_
   refine qM rfl rfl rfl <| qO rfl <| op_store' rfl rfl rfl rfl sz30 rfl rfl (Nat.le_of_ble_eq_true rfl) rfl <| qA rfl rfl rfl <| qN <| mwp_ret ?_
   exact ret_cell_tmp (.inr rfl) Tryz.results83 rfl rfl ta30 rfl (.agg (.cons (.refl _) (.cons (.refl _) (.cons (.nil 1) (.cons (.nil 1) (.cons (.nil 5) .nil)))))) (cl_encV _ (noV)) rfl (.refl _) (.iface _ _ (.int _ _)) ⟨by rw [bothF_mk, hBq]; rfl, rfl⟩
  ·
   refine mcalls_body Tryz.func83 rfl Tryz.ntmps83 (Nat.le_of_ble_eq_true rfl) ?_
   refine mwp_seq <| qR rfl <| qB rfl rfl rfl rfl rfl <| qB rfl rfl rfl rfl rfl <| qB rfl rfl rfl rfl rfl <| qO rfl <| op_alloc' rfl zm30 rfl rfl <| qA rfl rfl rfl <| qN <| mwp_seq <| mwp_seq <| qR rfl <| qF rfl rfl rfl fo24_0 <| qL rfl rfl rfl rfl ta3 rfl <| qN <| mwp_block <| mwp_seq <| mwp_seq <| qR rfl <| qC rfl rfl rfl rfl rfl <| qA rfl rfl rfl <| qN ?_
   refine mwp_cond_f rfl (rfl) <| qR rfl <| qC rfl rfl rfl rfl rfl <| qA rfl rfl rfl <| qN <| mwp_cond_f rfl (rfl) <| mwp_seq <| qR rfl <| qC rfl rfl rfl rfl rfl <| qA rfl rfl rfl <| qN <| mwp_cond_f rfl (rfl) <| mwp_seq <| qR rfl <| qC rfl rfl rfl rfl rfl <| qA rfl rfl rfl <| qN <| mwp_cond_f rfl (rfl) <| mwp_seq <| qR rfl <| qC rfl rfl rfl rfl rfl <| qA rfl rfl rfl ?_
   refine qN <| mwp_cond_t rfl (rfl) <| qR rfl <| qL rfl rfl rfl rfl ta24 rfl <| qL rfl rfl rfl rfl ta30 rfl <| qL rfl rfl rfl rfl ta30 rfl ?_
   refine wOps_op rfl (op_call rfl rfl rfl co103 ((hof _).mono ?_))
   rintro _ _ ⟨rfl, rfl⟩
   refine qM rfl rfl rfl <| qO rfl <| op_extract rfl rfl rfl <| qO rfl <| op_extract rfl rfl rfl <| qO rfl <| op_store' rfl rfl rfl rfl sz30 rfl rfl (Nat.le_of_ble_eq_true rfl) rfl <| qA rfl rfl rfl <| qN <| mwp_seq <| mwp_seq <| qR rfl <| qM rfl rfl rfl <| qO rfl <| op_if0 rfl Tryz.underlying34 rfl rfl (.inl ⟨rfl, rfl⟩) <| qM rfl rfl rfl <| qL rfl rfl rfl rfl ta30 rfl ?_
   refine wOps_op rfl (op_call rfl rfl rfl co107 ((isLarge_spec n3 m3 s3 c3 w3 _).mono ?_))
   rintro _ _ ⟨rfl, rfl⟩
   refine qP rfl rfl rfl rfl <| qN ?_
   refine mwp_cond_split rfl (fun h69 => ?_) (fun h69 => ?_)
   ·
    refine qR rfl <| qO rfl <| op_makeInterface rfl rfl Tryz.underlying58 (by simp) ?_
    refine qA rfl rfl rfl <| qN <| mwp_seq <| mwp_seq <| qR rfl <| qM rfl rfl rfl <| qO rfl <| op_ifnil rfl Tryz.underlying34 rfl rfl (.inr ⟨rfl, rfl⟩) <| qN <| mwp_cond_t rfl (rfl) <| mwp_seq <| qR rfl <| qO rfl <| op_build rfl Tryz.underlying30 zm30 .nil (by kernel_rfl) ?_
    refine qM rfl rfl rfl <| qO rfl <| op_store' rfl rfl rfl rfl sz30 rfl rfl (Nat.le_of_ble_eq_true rfl) rfl <| qA rfl rfl rfl <| qN <| mwp_ret ?_
    exact ret_cell_tmp (.inr rfl) Tryz.results83 rfl rfl ta30 rfl (.agg (.cons (.refl _) (.cons (.refl _) (.cons (.nil 1) (.cons (.nil 1) (.cons (.nil 5) .nil)))))) (cl_encV _ (noV)) rfl (.refl _) (.iface _ _ (.int _ _)) ⟨by rw [bothF_mk, hBq, cap_t h69]; rfl, rfl⟩
   ·
    refine mwp_skip <| mwp_seq <| mwp_seq <| qR rfl <| qM rfl rfl rfl <| qO rfl <| op_if0 rfl Tryz.underlying34 rfl rfl (.inr ⟨rfl, rfl⟩) <| qN <| mwp_cond_f rfl (rfl) <| mwp_skip <| mwp_seq <| qR rfl <| qL rfl rfl rfl rfl ta30 rfl <| qO rfl <| op_store' rfl rfl rfl rfl sz30 rfl rfl (Nat.le_of_ble_eq_true rfl) rfl <| qA rfl rfl rfl <| qN <| mwp_ret ?_
    exact ret_cell_tmp (.inr rfl) Tryz.results83 rfl rfl ta30 rfl (.refl _) (cl_encV _ (.mk n3 m3 s3 c3 w3)) rfl (.refl _) (.iface0) ⟨by rw [bothF_mk, hBq, cap_f h69]; rfl, rfl⟩
 ·
  obtain ⟨n3, m3, s3, c3, w3, hlt⟩ : ∃ n m s c w, laterF (.mk n1 m1 s1 c1 w1) (.mk n2 m2 s2 c2 w2) = .mk n m s c w := by cases laterF (.mk n1 m1 s1 c1 w1) (.mk n2 m2 s2 c2 w2) with
   | mk n m s c w => exact ⟨n, m, s, c, w, rfl⟩
  have hlt2 := later_spec n1 m1 s1 c1 w1 n2 m2 s2 c2 w2
  rw [hlt] at hlt2
  have hB : bothB 6 (bothL ins) (.mk n1 m1 s1 c1 w1) (.mk n2 m2 s2 c2 w2) = some (.mk n3 m3 s3 c3 w3) := congrArg some hlt
  refine mcalls_body Tryz.func83 rfl Tryz.ntmps83 (Nat.le_of_ble_eq_true rfl) ?_
  refine mwp_seq <| qR rfl <| qB rfl rfl rfl rfl rfl <| qB rfl rfl rfl rfl rfl <| qB rfl rfl rfl rfl rfl <| qO rfl <| op_alloc' rfl zm30 rfl rfl <| qA rfl rfl rfl <| qN <| mwp_seq <| mwp_seq <| qR rfl <| qF rfl rfl rfl fo24_0 <| qL rfl rfl rfl rfl ta3 rfl <| qN <| mwp_block <| mwp_seq <| mwp_seq <| qR rfl <| qC rfl rfl rfl rfl rfl <| qA rfl rfl rfl <| qN ?_
  refine mwp_cond_f rfl (rfl) <| qR rfl <| qC rfl rfl rfl rfl rfl <| qA rfl rfl rfl <| qN <| mwp_cond_f rfl (rfl) <| mwp_seq <| qR rfl <| qC rfl rfl rfl rfl rfl <| qA rfl rfl rfl <| qN <| mwp_cond_f rfl (rfl) <| mwp_seq <| qR rfl <| qC rfl rfl rfl rfl rfl <| qA rfl rfl rfl <| qN <| mwp_cond_f rfl (rfl) <| mwp_seq <| qR rfl <| qC rfl rfl rfl rfl rfl <| qA rfl rfl rfl ?_
  refine qN <| mwp_cond_f rfl (rfl) <| mwp_seq <| qR rfl <| qC rfl rfl rfl rfl rfl <| qA rfl rfl rfl <| qN <| mwp_cond_t rfl (rfl) <| qR rfl <| qL rfl rfl rfl rfl ta30 rfl <| qL rfl rfl rfl rfl ta30 rfl ?_
  refine wOps_op rfl (op_call rfl rfl rfl co104 ((hlt2 _).mono ?_))
  rintro _ _ ⟨rfl, rfl⟩
  refine qO rfl <| op_store' rfl rfl rfl rfl sz30 rfl rfl (Nat.le_of_ble_eq_true rfl) rfl <| qN <| mwp_seq <| mwp_seq <| qR rfl <| qM rfl rfl rfl <| qO rfl <| op_if0 rfl Tryz.underlying34 rfl rfl (.inl ⟨rfl, rfl⟩) <| qM rfl rfl rfl <| qL rfl rfl rfl rfl ta30 rfl ?_
  refine wOps_op rfl (op_call rfl rfl rfl co107 ((isLarge_spec n3 m3 s3 c3 w3 _).mono ?_))
  rintro _ _ ⟨rfl, rfl⟩
  refine qP rfl rfl rfl rfl <| qN ?_
  refine mwp_cond_split rfl (fun h69 => ?_) (fun h69 => ?_)
  ·
   refine qR rfl <| qO rfl <| op_makeInterface rfl rfl Tryz.underlying58 (by simp) ?_
   refine qA rfl rfl rfl <| qN <| mwp_seq <| mwp_seq <| qR rfl <| qM rfl rfl rfl <| qO rfl <| op_ifnil rfl Tryz.underlying34 rfl rfl (.inr ⟨rfl, rfl⟩) <| qN <| mwp_cond_t rfl (rfl) <| mwp_seq <| qR rfl <| qO rfl <| op_build rfl Tryz.underlying30 zm30 .nil (by kernel_rfl) ?_
   refine qM rfl rfl rfl <| qO rfl <| op_store' rfl rfl rfl rfl sz30 rfl rfl (Nat.le_of_ble_eq_true rfl) rfl <| qA rfl rfl rfl <| qN <| mwp_ret ?_
   exact ret_cell_tmp (.inr rfl) Tryz.results83 rfl rfl ta30 rfl (.agg (.cons (.refl _) (.cons (.refl _) (.cons (.nil 1) (.cons (.nil 1) (.cons (.nil 5) .nil)))))) (cl_encV _ (noV)) rfl (.refl _) (.iface _ _ (.int _ _)) ⟨by rw [bothF_mk, hB, cap_t h69]; rfl, rfl⟩
  ·
   refine mwp_skip <| mwp_seq <| mwp_seq <| qR rfl <| qM rfl rfl rfl <| qO rfl <| op_if0 rfl Tryz.underlying34 rfl rfl (.inr ⟨rfl, rfl⟩) <| qN <| mwp_cond_f rfl (rfl) <| mwp_skip <| mwp_seq <| qR rfl <| qL rfl rfl rfl rfl ta30 rfl <| qO rfl <| op_store' rfl rfl rfl rfl sz30 rfl rfl (Nat.le_of_ble_eq_true rfl) rfl <| qA rfl rfl rfl <| qN <| mwp_ret ?_
   exact ret_cell_tmp (.inr rfl) Tryz.results83 rfl rfl ta30 rfl (.refl _) (cl_encV _ (.mk n3 m3 s3 c3 w3)) rfl (.refl _) (.iface0) ⟨by rw [bothF_mk, hB, cap_f h69]; rfl, rfl⟩
 ·
  have b1 := isV7 ha
  have b2 := isV7 hb
  obtain ⟨n3, m3, s3, c3, w3, hlt⟩ : ∃ n m s c w, clocksF (.mk n1 m1 s1 c1 w1) (.mk n2 m2 s2 c2 w2) = .mk n m s c w := by cases clocksF (.mk n1 m1 s1 c1 w1) (.mk n2 m2 s2 c2 w2) with
   | mk n m s c w => exact ⟨n, m, s, c, w, rfl⟩
  have hlt2 := clocks_spec n1 m1 s1 c1 w1 n2 m2 s2 c2 w2 (fun x hx y hy => by have := b1 x hx; have := b2 y hy; omega)
  rw [hlt] at hlt2
  have hB : bothB 7 (bothL ins) (.mk n1 m1 s1 c1 w1) (.mk n2 m2 s2 c2 w2) = some (.mk n3 m3 s3 c3 w3) := congrArg some hlt
  refine mcalls_body Tryz.func83 rfl Tryz.ntmps83 (Nat.le_of_ble_eq_true rfl) ?_
  refine mwp_seq <| qR rfl <| qB rfl rfl rfl rfl rfl <| qB rfl rfl rfl rfl rfl <| qB rfl rfl rfl rfl rfl <| qO rfl <| op_alloc' rfl zm30 rfl rfl <| qA rfl rfl rfl <| qN <| mwp_seq <| mwp_seq <| qR rfl <| qF rfl rfl rfl fo24_0 <| qL rfl rfl rfl rfl ta3 rfl <| qN <| mwp_block <| mwp_seq <| mwp_seq <| qR rfl <| qC rfl rfl rfl rfl rfl <| qA rfl rfl rfl <| qN ?_
  refine mwp_cond_f rfl (rfl) <| qR rfl <| qC rfl rfl rfl rfl rfl <| qA rfl rfl rfl <| qN <| mwp_cond_f rfl (rfl) <| mwp_seq <| qR rfl <| qC rfl rfl rfl rfl rfl <| qA rfl rfl rfl <| qN <| mwp_cond_f rfl (rfl) <| mwp_seq <| qR rfl <| qC rfl rfl rfl rfl rfl <| qA rfl rfl rfl <| qN <| mwp_cond_f rfl (rfl) <| mwp_seq <| qR rfl <| qC rfl rfl rfl rfl rfl <| qA rfl rfl rfl ?_
  refine qN <| mwp_cond_f rfl (rfl) <| mwp_seq <| qR rfl <| qC rfl rfl rfl rfl rfl <| qA rfl rfl rfl <| qN <| mwp_cond_f rfl (rfl) <| mwp_seq <| qR rfl <| qC rfl rfl rfl rfl rfl <| qA rfl rfl rfl <| qN <| mwp_cond_t rfl (rfl) <| qR rfl <| qL rfl rfl rfl rfl ta30 rfl <| qL rfl rfl rfl rfl ta30 rfl ?_
  refine wOps_op rfl (op_call rfl rfl rfl co105 ((hlt2 _).mono ?_))
  rintro _ _ ⟨rfl, rfl⟩
  refine qO rfl <| op_store' rfl rfl rfl rfl sz30 rfl rfl (Nat.le_of_ble_eq_true rfl) rfl <| qN <| mwp_seq <| mwp_seq <| qR rfl <| qM rfl rfl rfl <| qO rfl <| op_if0 rfl Tryz.underlying34 rfl rfl (.inl ⟨rfl, rfl⟩) <| qM rfl rfl rfl <| qL rfl rfl rfl rfl ta30 rfl ?_
  refine wOps_op rfl (op_call rfl rfl rfl co107 ((isLarge_spec n3 m3 s3 c3 w3 _).mono ?_))
  rintro _ _ ⟨rfl, rfl⟩
  refine qP rfl rfl rfl rfl <| qN ?_
  refine mwp_cond_split rfl (fun h69 => ?_) (fun h69 => ?_)
  ·
   refine qR rfl <| qO rfl <| op_makeInterface rfl rfl Tryz.underlying58 (by simp) ?_
   refine qA rfl rfl rfl <| qN <| mwp_seq <| mwp_seq <| qR rfl <| qM rfl rfl rfl <| qO rfl <| op_ifnil rfl Tryz.underlying34 rfl rfl (.inr ⟨rfl, rfl⟩) <| qN <| mwp_cond_t rfl (rfl) <| mwp_seq <| qR rfl <| qO rfl <| op_build rfl Tryz.underlying30 zm30 .nil (by kernel_rfl) ?_
   refine qM rfl rfl rfl <| qO rfl <| op_store' rfl rfl rfl rfl sz30 rfl rfl (Nat.le_of_ble_eq_true rfl) rfl <| qA rfl rfl rfl <| qN <| mwp_ret ?_
   exact ret_cell_tmp (.inr rfl) Tryz.results83 rfl rfl ta30 rfl (.agg (.cons (.refl _) (.cons (.refl _) (.cons (.nil 1) (.cons (.nil 1) (.cons (.nil 5) .nil)))))) (cl_encV _ (noV)) rfl (.refl _) (.iface _ _ (.int _ _)) ⟨by rw [bothF_mk, hB, cap_t h69]; rfl, rfl⟩
  ·
   refine mwp_skip <| mwp_seq <| mwp_seq <| qR rfl <| qM rfl rfl rfl <| qO rfl <| op_if0 rfl Tryz.underlying34 rfl rfl (.inr ⟨rfl, rfl⟩) <| qN <| mwp_cond_f rfl (rfl) <| mwp_skip <| mwp_seq <| qR rfl <| qL rfl rfl rfl rfl ta30 rfl <| qO rfl <| op_store' rfl rfl rfl rfl sz30 rfl rfl (Nat.le_of_ble_eq_true rfl) rfl <| qA rfl rfl rfl <| qN <| mwp_ret ?_
   exact ret_cell_tmp (.inr rfl) Tryz.results83 rfl rfl ta30 rfl (.refl _) (cl_encV _ (.mk n3 m3 s3 c3 w3)) rfl (.refl _) (.iface0) ⟨by rw [bothF_mk, hB, cap_f h69]; rfl, rfl⟩
 ·
  obtain ⟨⟨k1, i1⟩, rfl⟩ := one_ins hd.1 (by decide)
  have ih1 := ih (.mk k1 i1) (hd.2 _ (by simp))
  obtain ⟨p1, p2, p4, p3⟩ := isV8 ha
  obtain ⟨q1, q2, q4, q3⟩ := isV8 hb
  have hof := causes_spec 8 k1 i1 [] (bothF (.mk k1 i1)) n1 m1 s1 c1 w1 n2 m2 s2 c2 w2 p2 q2 p1 q1 (fun x hx => by have := p4 x hx; omega) (fun x hx => by have := q4 x hx; omega) (fun x hx y hy => ih1 x y (p3 x hx) (q3 y hy))
  have hBq : bothB 8 (bothL [.mk k1 i1]) (.mk n1 m1 s1 c1 w1) (.mk n2 m2 s2 c2 w2) = causesF (bothF (.mk k1 i1)) (.mk n1 m1 s1 c1 w1) (.mk n2 m2 s2 c2 w2) := rfl
  rcases hO : causesF (bothF (.mk k1 i1)) (.mk n1 m1 s1 c1 w1) (.mk n2 m2 s2 c2 w2) with _ | ⟨⟨n3, m3, s3, c3, w3⟩⟩ <;> rw [hO] at hof hBq
  ·
   refine mcalls_body Tryz.func83 rfl Tryz.ntmps83 (Nat.le_of_ble_eq_true rfl) ?_
   refine mwp_seq <| qR rfl <| qB rfl rfl rfl rfl rfl <| qB rfl rfl rfl rfl rfl <| qB rfl rfl rfl rfl rfl <| qO rfl <| op_alloc' rfl zm30 rfl rfl <| qA rfl rfl rfl <| qN <| mwp_seq <| mwp_seq <| qR rfl <| qF rfl rfl rfl fo24_0 <| qL rfl rfl rfl rfl ta3 rfl <| qN <| mwp_block <| mwp_seq <| mwp_seq <| qR rfl <| qC rfl rfl rfl rfl rfl <| qA rfl rfl rfl <| qN ?_
   refine mwp_cond_f rfl (rfl) <| qR rfl <| qC rfl rfl rfl rfl rfl <| qA rfl rfl rfl <| qN <| mwp_cond_f rfl (rfl) <| mwp_seq <| qR rfl <| qC rfl rfl rfl rfl rfl <| qA rfl rfl rfl <| qN <| mwp_cond_f rfl (rfl) <| mwp_seq <| qR rfl <| qC rfl rfl rfl rfl rfl <| qA rfl rfl rfl <| qN <| mwp_cond_f rfl (rfl) <| mwp_seq <| qR rfl <| qC rfl rfl rfl rfl rfl <| qA rfl rfl rfl ?_
   refine qN <| mwp_cond_f rfl (rfl) <| mwp_seq <| qR rfl <| qC rfl rfl rfl rfl rfl <| qA rfl rfl rfl <| qN <| mwp_cond_f rfl (rfl) <| mwp_seq <| qR rfl <| qC rfl rfl rfl rfl rfl <| qA rfl rfl rfl <| qN <| mwp_cond_f rfl (rfl) <| mwp_seq <| qR rfl <| qC rfl rfl rfl rfl rfl <| qA rfl rfl rfl <| qN <| mwp_cond_t rfl (rfl) <| qR rfl <| qL rfl rfl rfl rfl ta24 rfl <| qL rfl rfl rfl rfl ta30 rfl ?_
   refine qL rfl rfl rfl rfl ta30 rfl ?_
   refine wOps_op rfl (op_call rfl rfl rfl co106 ((hof _).mono ?_))
   rintro _ _ ⟨rfl, rfl⟩
   refine qM rfl rfl rfl <| qO rfl <| op_extract rfl rfl rfl <| qO rfl <| op_extract rfl rfl rfl <| qO rfl <| op_store' rfl rfl rfl rfl sz30 rfl rfl (Nat.le_of_ble_eq_true rfl) rfl <| qA rfl rfl rfl <| qN <| mwp_seq <| mwp_seq <| qR rfl <| qM rfl rfl rfl <| qO rfl <| op_ifnil rfl Tryz.underlying34 rfl rfl (.inl ⟨rfl, rfl⟩) <| qM rfl rfl rfl <| qS rfl <| qS rfl <| qP rfl rfl rfl rfl <| qN <| mwp_cond_f rfl (rfl) <| mwp_skip <| mwp_seq <| mwp_seq <| qR rfl ?_
   refine qM rfl rfl rfl <| qO rfl <| op_ifnil rfl Tryz.underlying34 rfl rfl (.inr ⟨rfl, rfl⟩) <| qN <| mwp_cond_t rfl (rfl) <| mwp_seq <| qR rfl <| qO rfl <| op_build rfl Tryz.underlying30 zm30 .nil (by kernel_rfl) ?_
   refine qM rfl rfl rfl <| qO rfl <| op_store' rfl rfl rfl rfl sz30 rfl rfl (Nat.le_of_ble_eq_true rfl) rfl <| qA rfl rfl rfl <| qN <| mwp_ret ?_
   exact ret_cell_tmp (.inr rfl) Tryz.results83 rfl rfl ta30 rfl (.agg (.cons (.refl _) (.cons (.refl _) (.cons (.nil 1) (.cons (.nil 1) (.cons (.nil 5) .nil)))))) (cl_encV _ (noV)) rfl (.refl _) (.iface _ _ (.int _ _)) ⟨by rw [bothF_mk, hBq]; rfl, rfl⟩
  ·
   refine mcalls_body Tryz.func83 rfl Tryz.ntmps83 (Nat.le_of_ble_eq_true rfl) ?_
   refine mwp_seq <| qR rfl <| qB rfl rfl rfl rfl rfl <| qB rfl rfl rfl rfl rfl <| qB rfl rfl rfl rfl rfl <| qO rfl <| op_alloc' rfl zm30 rfl rfl <| qA rfl rfl rfl <| qN <| mwp_seq <| mwp_seq <| qR rfl <| qF rfl rfl rfl fo24_0 <| qL rfl rfl rfl rfl ta3 rfl <| qN <| mwp_block <| mwp_seq <| mwp_seq <| qR rfl <| qC rfl rfl rfl rfl rfl <| qA rfl rfl rfl <| qN ?_
   refine mwp_cond_f rfl (rfl) <| qR rfl <| qC rfl rfl rfl rfl rfl <| qA rfl rfl rfl <| qN <| mwp_cond_f rfl (rfl) <| mwp_seq <| qR rfl <| qC rfl rfl rfl rfl rfl <| qA rfl rfl rfl <| qN <| mwp_cond_f rfl (rfl) <| mwp_seq <| qR rfl <| qC rfl rfl rfl rfl rfl <| qA rfl rfl rfl <| qN <| mwp_cond_f rfl (rfl) <| mwp_seq <| qR rfl <| qC rfl rfl rfl rfl rfl <| qA rfl rfl rfl ?_
   refine qN <| mwp_cond_f rfl (rfl) <| mwp_seq <| qR rfl <| qC rfl rfl rfl rfl rfl <| qA rfl rfl rfl <| qN <| mwp_cond_f rfl (rfl) <| mwp_seq <| qR rfl <| qC rfl rfl rfl rfl rfl <| qA rfl rfl rfl <| qN <| mwp_cond_f rfl (rfl) <| mwp_seq <| qR rfl <| qC rfl rfl rfl rfl rfl <| qA rfl rfl rfl <| qN <| mwp_cond_t rfl (rfl) <| qR rfl <| qL rfl rfl rfl rfl ta24 rfl <| qL rfl rfl rfl rfl ta30 rfl ?_
   refine qL rfl rfl rfl rfl ta30 rfl ?_
   refine wOps_op rfl (op_call rfl rfl rfl co106 ((hof _).mono ?_))
   rintro _ _ ⟨rfl, rfl⟩
   refine qM rfl rfl rfl <| qO rfl <| op_extract rfl rfl rfl <| qO rfl <| op_extract rfl rfl rfl <| qO rfl <| op_store' rfl rfl rfl rfl sz30 rfl rfl (Nat.le_of_ble_eq_true rfl) rfl <| qA rfl rfl rfl <| qN <| mwp_seq <| mwp_seq <| qR rfl <| qM rfl rfl rfl <| qO rfl <| op_if0 rfl Tryz.underlying34 rfl rfl (.inl ⟨rfl, rfl⟩) <| qM rfl rfl rfl <| qL rfl rfl rfl rfl ta30 rfl ?_
   refine wOps_op rfl (op_call rfl rfl rfl co107 ((isLarge_spec n3 m3 s3 c3 w3 _).mono ?_))
   rintro _ _ ⟨rfl, rfl⟩
   refine qP rfl rfl rfl rfl <| qN ?_
   refine mwp_cond_split rfl (fun h69 => ?_) (fun h69 => ?_)
   ·
    refine qR rfl <| qO rfl <| op_makeInterface rfl rfl Tryz.underlying58 (by simp) ?_
    refine qA rfl rfl rfl <| qN <| mwp_seq <| mwp_seq <| qR rfl <| qM rfl rfl rfl <| qO rfl <| op_ifnil rfl Tryz.underlying34 rfl rfl (.inr ⟨rfl, rfl⟩) <| qN <| mwp_cond_t rfl (rfl) <| mwp_seq <| qR rfl <| qO rfl <| op_build rfl Tryz.underlying30 zm30 .nil (by kernel_rfl) ?_
    refine qM rfl rfl rfl <| qO rfl <| op_store' rfl rfl rfl rfl sz30 rfl rfl (Nat.le_of_ble_eq_true rfl) rfl <| qA rfl rfl rfl <| qN <| mwp_ret ?_
    exact ret_cell_tmp (.inr rfl) Tryz.results83 rfl rfl ta30 rfl (.agg (.cons (.refl _) (.cons (.refl _) (.cons (.nil 1) (.cons (.nil 1) (.cons (.nil 5) .nil)))))) (cl_encV _ (noV)) rfl (.refl _) (.iface _ _ (.int _ _)) ⟨by rw [bothF_mk, hBq, cap_t h69]; rfl, rfl⟩
   ·
    refine mwp_skip <| mwp_seq <| mwp_seq <| qR rfl <| qM rfl rfl rfl <| qO rfl <| op_if0 rfl Tryz.underlying34 rfl rfl (.inr ⟨rfl, rfl⟩) <| qN <| mwp_cond_f rfl (rfl) <| mwp_skip <| mwp_seq <| qR rfl <| qL rfl rfl rfl rfl ta30 rfl <| qO rfl <| op_store' rfl rfl rfl rfl sz30 rfl rfl (Nat.le_of_ble_eq_true rfl) rfl <| qA rfl rfl rfl <| qN <| mwp_ret ?_
    exact ret_cell_tmp (.inr rfl) Tryz.results83 rfl rfl ta30 rfl (.refl _) (cl_encV _ (.mk n3 m3 s3 c3 w3)) rfl (.refl _) (.iface0) ⟨by rw [bothF_mk, hBq, cap_f h69]; rfl, rfl⟩
end Go.Proofs.YtnfcnpdpfgcchaaGreat
end
section
set_option linter.unusedVariables false
set_option linter.unusedSimpArgs false
namespace Go.Proofs.YtnfcnpdpfgcchaaGreat
open Go Go.MV Go.RowKit
theorem mergeF_mem {α : Type} {cmp : α → α → Int} {bo : α → α → α} {P : α → Prop} (hbo : ∀ x y, P x → P y → P (bo x y)) : ∀ a b : List α, (∀ x ∈ a, P x) → (∀ x ∈ b, P x) → ∀ x ∈ mergeF cmp bo a b, P x := by
  intro a b
  induction a, b using mergeF.induct cmp with
  | case1 b => intro _ h; rwa [mergeF]
  | case2 a h0 => intro h _; rw [merge_nil]; exact h
  | case3 x a y b hlt ih =>
    intro h1 h2 z hz
    rw [mergeF, if_pos hlt] at hz
    rcases List.mem_cons.1 hz with rfl | hz
    · exact h1 _ (.head _)
    · exact ih (fun x hx => h1 x (.tail _ hx)) h2 z hz
  | case4 x a y b hlt hgt ih =>
    intro h1 h2 z hz
    rw [mergeF, if_neg hlt, if_pos hgt] at hz
    rcases List.mem_cons.1 hz with rfl | hz
    · exact h2 _ (.head _)
    · exact ih h1 (fun x hx => h2 x (.tail _ hx)) z hz
  | case5 x a y b hlt hgt ih =>
    intro h1 h2 z hz
    rw [mergeF, if_neg hlt, if_neg hgt] at hz
    rcases List.mem_cons.1 hz with rfl | hz
    · exact hbo _ _ (h1 _ (.head _)) (h2 _ (.head _))
    · exact ih (fun x hx => h1 x (.tail _ hx)) (fun x hx => h2 x (.tail _ hx)) z hz
theorem join_ok {a b : List Tk} (ha : ∀ t ∈ a, okTk t) (hb : ∀ t ∈ b, okTk t) : ∀ t ∈ joinF a b, okTk t := mergeF_mem (P := okTk) (fun x y hx hy => by unfold okTk Go.MV.bothT at *; dsimp only; split <;> assumption) a b ha hb
theorem goE_ok {κ : Type} {f : Val → Val → Option Val} {P : κ → Prop} {Q : Val → Prop} : ∀ {l : List (Ent κ)} {x : List (κ × Val)}, (∀ e ∈ l, P e.1 ∧ Q e.2.1 ∧ ∀ y, e.2.2 = some y → Q y ∧ ∀ v, f e.2.1 y = some v → Q v) → goE f l = some x → ∀ p ∈ x, P p.1 ∧ Q p.2
  | [], x, _, h => by simp [goE] at h; subst h; simp
  | e :: l, x, hl, h => by
    rw [goE] at h
    cases ho : ofE f e with
    | none => rw [ho] at h; cases h
    | some v =>
      rw [ho] at h
      cases hg : goE f l with
      | none => rw [hg] at h; cases h
      | some y =>
        rw [hg] at h
        simp at h
        subst h
        obtain ⟨h1, h2, h3⟩ := hl e (.head _)
        intro p hp
        rcases List.mem_cons.1 hp with rfl | hp
        · refine ⟨h1, ?_⟩
          unfold ofE at ho
          cases he : e.2.2 with
          | none => rw [he] at ho; injection ho with ho; subst ho; exact h2
          | some y => rw [he] at ho; exact (h3 y he).2 v ho
        · exact goE_ok (fun e he => hl e (.tail _ he)) hg p hp
theorem zip_m1 {α β : Type} {a : List α} {b : List β} {x : α} {y : β} (h : (x, y) ∈ a.zip b) : x ∈ a := (List.of_mem_zip h).1
theorem zip_m2 {α β : Type} {a : List α} {b : List β} {x : α} {y : β} (h : (x, y) ∈ a.zip b) : y ∈ b := (List.of_mem_zip h).2
theorem okV_mk {n m : Int} {s : List Bs} {c : List (List Tk)} {w : List Val} : okV (.mk n m s c w) ↔ (0 ≤ n ∧ n < 18446744073709551616) ∧ (0 ≤ m ∧ m < 18446744073709551616) ∧ (∀ x ∈ c, ∀ t ∈ x, okTk t) ∧ ∀ x ∈ w, okV x := by rw [okV, okVs_iff]
theorem cap_some {o : Option Val} {v : Val} (h : capF o = some v) : o = some v := by
  cases o with
  | none => cases h
  | some u =>
    unfold capF at h
    simp only [Option.bind_some] at h
    split at h
    · cases h
    · exact h
theorem okV_both : ∀ (d : Nat) (t : Sch), isF d t = true → ∀ a b v : Val, okV a → okV b → bothF t a b = some v → okV v
  | 0, t, h => by simp [isF] at h
  | d + 1, .mk k ins, h => by
    rw [isF] at h
    simp only [Bool.and_eq_true, List.all_eq_true, beq_iff_eq] at h
    rintro ⟨n1, m1, s1, c1, w1⟩ ⟨n2, m2, s2, c2, w2⟩ v ha hb hv
    rw [bothF_mk] at hv
    replace hv := cap_some hv
    have a0 := okV_mk.1 ha
    have b0 := okV_mk.1 hb
    rcases k8_of h.1 with rfl | rfl | rfl | rfl | rfl | rfl | rfl | rfl
    · injection hv with hv; subst hv
      exact okV_mk.2 ⟨by simp only [Val.nv]; omega, by omega, by simp, by simp⟩
    · injection hv with hv; subst hv
      exact okV_mk.2 ⟨by simp only [Val.nv]; omega, by omega, by simp, by simp⟩
    · injection hv with hv; subst hv
      exact okV_mk.2 ⟨by omega, by omega, by simp, by simp⟩
    · obtain ⟨t1, rfl⟩ := one_ins h.1 (by decide)
      have ih := okV_both d t1 (h.2 _ (by simp))
      replace hv : mapsF (bothF t1) (.mk n1 m1 s1 c1 w1) (.mk n2 m2 s2 c2 w2) = some v := by rw [← hv]; simp [bothB, bothL]
      unfold mapsF at hv
      obtain ⟨x, hx, rfl⟩ := Option.map_eq_some_iff.1 hv
      have := goE_ok (P := fun _ => True) (Q := okV) (fun e he => by
        obtain ⟨p, q⟩ := mergeE_mem _ _ _ e he
        have h1 : okV e.2.1 := p.elim (fun h => a0.2.2.2 _ (zip_m2 h)) (fun h => b0.2.2.2 _ (zip_m2 h))
        refine ⟨trivial, h1, fun y hy => ?_⟩
        obtain ⟨q1, k, q2⟩ := q y hy
        exact ⟨b0.2.2.2 _ (zip_m2 q2), fun v hv => ih _ _ v h1 (b0.2.2.2 _ (zip_m2 q2)) hv⟩) hx
      refine okV_mk.2 ⟨by omega, by omega, by simp, fun y hy => ?_⟩
      obtain ⟨p, hp, rfl⟩ := List.mem_map.1 hy
      exact (this p hp).2
    · obtain ⟨t1, t2, rfl⟩ := two_of h.1
      have ih1 := okV_both d t1 (h.2 _ (by simp))
      have ih2 := okV_both d t2 (h.2 _ (by simp))
      replace hv : pairF2 [bothF t1, bothF t2] (.mk n1 m1 s1 c1 w1) (.mk n2 m2 s2 c2 w2) = some v := by rw [← hv]; simp [bothB, bothL]
      unfold pairF2 at hv
      obtain ⟨x, hx, rfl⟩ := Option.map_eq_some_iff.1 hv
      refine okV_mk.2 ⟨by omega, by omega, by simp, ?_⟩
      simp only [Val.vv] at hx
      match w1, w2, a0, b0, hx with
      | [], _, _, _, hx => simp [goP] at hx; subst hx; simp
      | _ :: _, [], _, _, hx => simp [goP] at hx; subst hx; simp
      | [x1], y1 :: w2, a0, b0, hx =>
        simp only [goP] at hx
        cases hf : bothF t1 x1 y1 with
        | none => rw [hf] at hx; cases hx
        | some u => rw [hf] at hx; simp at hx; subst hx; simp; exact ih1 _ _ _ (a0.2.2.2 _ (by simp)) (b0.2.2.2 _ (by simp)) hf
      | x1 :: x2 :: w1, [y1], a0, b0, hx =>
        simp only [goP] at hx
        cases hf : bothF t1 x1 y1 with
        | none => rw [hf] at hx; cases hx
        | some u => rw [hf] at hx; simp at hx; subst hx; simp; exact ih1 _ _ _ (a0.2.2.2 _ (by simp)) (b0.2.2.2 _ (by simp)) hf
      | x1 :: x2 :: w1, y1 :: y2 :: w2, a0, b0, hx =>
        simp only [goP] at hx
        cases hf : bothF t1 x1 y1 with
        | none => rw [hf] at hx; cases hx
        | some u =>
          rw [hf] at hx
          cases hg : bothF t2 x2 y2 with
          | none => rw [hg] at hx; cases hx
          | some u2 =>
            rw [hg] at hx
            simp at hx
            subst hx
            simp
            exact ⟨ih1 _ _ _ (a0.2.2.2 _ (by simp)) (b0.2.2.2 _ (by simp)) hf, ih2 _ _ _ (a0.2.2.2 _ (by simp)) (b0.2.2.2 _ (by simp)) hg⟩
    · injection hv with hv; subst hv
      unfold laterF
      split
      · exact hb
      · exact ha
    · injection hv with hv; subst hv
      unfold clocksF
      split
      · exact hb
      · split
        · exact ha
        · rename_i h1 h2
          refine okV_mk.2 ⟨by omega, by omega, ?_, by simp⟩
          intro x hx
          rw [List.mem_singleton] at hx
          subst hx
          simp only [Val.cv] at h1 h2 ⊢
          cases c1 with
          | nil => simp at h1
          | cons x c1 =>
            cases c2 with
            | nil => simp at h2
            | cons y c2 => exact join_ok (a0.2.2.1 _ (by simp)) (b0.2.2.1 _ (by simp))
    · obtain ⟨t1, rfl⟩ := one_ins h.1 (by decide)
      have ih := okV_both d t1 (h.2 _ (by simp))
      replace hv : causesF (bothF t1) (.mk n1 m1 s1 c1 w1) (.mk n2 m2 s2 c2 w2) = some v := by rw [← hv]; simp [bothB, bothL]
      unfold causesF at hv
      obtain ⟨x, hx, rfl⟩ := Option.map_eq_some_iff.1 hv
      have := goE_ok (P := fun k => ∀ t ∈ k, okTk t) (Q := okV) (fun e he => by
        obtain ⟨p, q⟩ := mergeE_mem _ _ _ e (List.mem_filter.1 he).1
        have h1 : okV e.2.1 := p.elim (fun h => a0.2.2.2 _ (zip_m2 h)) (fun h => b0.2.2.2 _ (zip_m2 h))
        refine ⟨p.elim (fun h => a0.2.2.1 _ (zip_m1 h)) (fun h => b0.2.2.1 _ (zip_m1 h)), h1, fun y hy => ?_⟩
        obtain ⟨q1, k, q2⟩ := q y hy
        exact ⟨b0.2.2.2 _ (zip_m2 q2), fun v hv => ih _ _ v h1 (b0.2.2.2 _ (zip_m2 q2)) hv⟩) hx
      refine okV_mk.2 ⟨by omega, by omega, fun y hy => ?_, fun y hy => ?_⟩
      · obtain ⟨p, hp, rfl⟩ := List.mem_map.1 hy
        exact (this p hp).1
      · obtain ⟨p, hp, rfl⟩ := List.mem_map.1 hy
        exact (this p hp).2
end Go.Proofs.YtnfcnpdpfgcchaaGreat
end
section
set_option linter.unusedVariables false
set_option linter.unusedSimpArgs false
set_option maxRecDepth 20000
set_option maxHeartbeats 400000
namespace Go.Proofs.YtnfcnpdpfgcchaaGreat
open Go Go.MV
theorem bottom_is : ∀ (d : Nat) (s : Sch), isF d s = true → isVF s (bottomF s) = true ∧ okV (bottomF s)
 | 0, s, h => by simp [isF] at h
 | d + 1, .mk k ins, h => by
  rw [isF] at h
  simp only [Bool.and_eq_true, List.all_eq_true, beq_iff_eq] at h
  by_cases h5 : k = 5
  ·subst h5
   obtain ⟨a, b, rfl⟩ := two_of h.1
   obtain ⟨h1, h2⟩ := bottom_is d a (h.2 a (by simp))
   obtain ⟨h3, h4⟩ := bottom_is d b (h.2 b (by simp))
   rw [bottomF, if_pos rfl, bottomL, bottomL, bottomL]
   refine ⟨?_, ?_⟩
   ·rw [isVF_mk 5]
    simp [isVL, h1, h3, bareF, numsK, textsK, clocksK, valuesK, Val.nv, Val.mv, Val.sv, Val.cv, Val.vv]
   ·simp [okV, okVs, h2, h4]
  ·rw [bottomF, if_neg h5]
   refine ⟨?_, by simp [noV, okV, okVs]⟩
   have hk := k8_of h.1
   unfold noV
   rw [isVF_mk k]
   rcases hk with rfl | rfl | rfl | rfl | rfl | rfl | rfl | rfl
   ·rfl
   ·rfl
   ·rfl
   ·simp [bareF, numsK, textsK, clocksK, valuesK, Val.nv, Val.mv, Val.sv, Val.cv, Val.vv, isRowF, risesF, shortF]
   ·exact absurd rfl h5
   ·rfl
   ·rfl
   ·simp [bareF, numsK, textsK, clocksK, valuesK, Val.nv, Val.mv, Val.sv, Val.cv, Val.vv, isCauseF, pairsF]
end Go.Proofs.YtnfcnpdpfgcchaaGreat
end
section
set_option linter.unusedVariables false
set_option linter.unusedSimpArgs false
set_option maxRecDepth 20000
set_option maxHeartbeats 400000
namespace Go.Proofs.YtnfcnpdpfgcchaaGreat
open Go Go.MV
theorem join_err {s : Sch} {a b : Val} (h : ¬ ((isF 16 s && isVF s a) = true ∧ (isF 16 s && isVF s b) = true)) : joinVF s a b = .error 14 := by unfold joinVF; rw [if_neg h]
theorem join_both {s : Sch} {a b : Val} (ha : (isF 16 s && isVF s a) = true) (hb : (isF 16 s && isVF s b) = true) : encJ (joinVF s a b) = encO (bothF s a b) := by
 unfold joinVF
 rw [if_pos ⟨ha, hb⟩]
 cases bothF s a b <;> rfl
theorem okV_no : okV noV := by simp [okV, okVs, noV]
theorem okV_join {s : Sch} {a b v : Val} (ha : okV a) (hb : okV b) (h : joinVF s a b = .ok v) : okV v := by
 unfold joinVF at h
 split at h
 ·rename_i hh
  rw [Bool.and_eq_true] at hh
  cases hO : bothF s a b with
  | none => rw [hO] at h; cases h
  | some u => rw [hO] at h; injection h with h; subst h; exact okV_both 16 s hh.1.1 a b u ha hb hO
 ·cases h
noncomputable def accA (s : Sch) (b : Val) (l : List Val) : Nat → Val
 | 0 => b
 | j + 1 => match joinVF s (accA s b l j) (l.getD j noV) with | .ok v => v | .error _ => noV
noncomputable def okA (s : Sch) (b : Val) (l : List Val) (j : Nat) : Bool := match joinVF s (accA s b l j) (l.getD j noV) with | .ok _ => true | .error _ => false
noncomputable def errA (s : Sch) (b : Val) (l : List Val) (j : Nat) : Int := match joinVF s (accA s b l j) (l.getD j noV) with | .ok _ => 0 | .error e => e
noncomputable def allGo (s : Sch) : Val → List Val → Except Int Val
 | acc, [] => .ok acc
 | acc, x :: l => match joinVF s acc x with | .ok v => allGo s v l | .error e => .error e
noncomputable def AllF (s : Sch) (l : List Val) : Except Int Val := if isF 16 s then allGo s (BottomF s) l else .error 14
theorem getD_at {l : List Val} {j : Nat} {x : Val} (h : l[j]? = some x) : l.getD j noV = x := by simp [h]
theorem okA_iff {s : Sch} {b : Val} {l : List Val} {j : Nat} {x : Val} (hx : l[j]? = some x) (h : okA s b l j = true) : joinVF s (accA s b l j) x = .ok (accA s b l (j + 1)) := by
 rw [okA, getD_at hx] at h
 rw [accA, getD_at hx]
 cases hj : joinVF s (accA s b l j) x with
 | ok v => rfl
 | error e => rw [hj] at h; cases h
theorem all_at {s : Sch} {b : Val} {l : List Val} : ∀ {j : Nat}, j ≤ l.length → (∀ i, i < j → okA s b l i = true) → allGo s b l = allGo s (accA s b l j) (l.drop j)
 | 0, _, _ => rfl
 | j + 1, hj, h => by
  obtain ⟨x, hx⟩ : ∃ x, l[j]? = some x := ⟨_, List.getElem?_eq_getElem (by omega)⟩
  rw [all_at (j := j) (by omega) fun i hi => h i (by omega), drop_at hx, allGo, okA_iff hx (h j (by omega))]
theorem all_ok {s : Sch} {b : Val} {l : List Val} (h : ∀ i, i < l.length → okA s b l i = true) : allGo s b l = .ok (accA s b l l.length) := by
 rw [all_at (Nat.le_refl _) h, List.drop_length]; rfl
theorem first_no (p : Nat → Bool) : ∀ n, p n = false → ∃ m, m ≤ n ∧ p m = false ∧ ∀ i, i < m → p i = true
 | 0, h => ⟨0, Nat.le_refl _, h, fun i hi => by omega⟩
 | n + 1, h => by
  by_cases hq : ∀ i, i < n + 1 → p i = true
  ·exact ⟨n + 1, Nat.le_refl _, h, hq⟩
  ·obtain ⟨i, hi, hp⟩ : ∃ i, i < n + 1 ∧ p i = false := by
    rcases Classical.not_forall.1 hq with ⟨i, hq⟩
    exact ⟨i, Classical.not_imp.1 hq |>.1, by simpa using (Classical.not_imp.1 hq).2⟩
   obtain ⟨m, h1, h2, h3⟩ := first_no p i hp
   exact ⟨m, by omega, h2, h3⟩
theorem all_bad {s : Sch} {b : Val} {l : List Val} {j : Nat} {x : Val} (hx : l[j]? = some x) (hb : ∀ i, i < j → okA s b l i = true) (h : okA s b l j = false) : allGo s b l = .error (errA s b l j) := by
 have hj := (List.getElem?_eq_some_iff.1 hx).1
 rw [all_at (j := j) (by omega) hb, drop_at hx, allGo, errA, getD_at hx]
 rw [okA, getD_at hx] at h
 cases hq : joinVF s (accA s b l j) x with
 | ok v => rw [hq] at h; cases h
 | error e => rfl
noncomputable def errF (s : Sch) (b : Val) (l : List Val) : Int := match allGo s b l with | .ok _ => 0 | .error e => e
theorem errF_eq {s : Sch} {b : Val} {l : List Val} {j : Nat} {x : Val} (hx : l[j]? = some x) (hb : ∀ i, i < j → okA s b l i = true) (h : okA s b l j = false) : errF s b l = errA s b l j := by rw [errF, all_bad hx hb h]
theorem all_badF {s : Sch} {b : Val} {l : List Val} {j : Nat} {x : Val} (hx : l[j]? = some x) (h : okA s b l j = false) : allGo s b l = .error (errF s b l) := by
 obtain ⟨m, hm, hp, hbm⟩ := first_no _ j h
 have hj := (List.getElem?_eq_some_iff.1 hx).1
 obtain ⟨y, hy⟩ : ∃ y, l[m]? = some y := ⟨_, List.getElem?_eq_getElem (by omega)⟩
 rw [errF, all_bad hy hbm hp]
theorem accA_ok {s : Sch} {b : Val} {l : List Val} (hb : okV b) (hl : ∀ x ∈ l, okV x) : ∀ j, j ≤ l.length → (∀ i, i < j → okA s b l i = true) → okV (accA s b l j)
 | 0, _, _ => hb
 | j + 1, hj, h => by
  obtain ⟨x, hx⟩ : ∃ x, l[j]? = some x := ⟨_, List.getElem?_eq_getElem (by omega)⟩
  exact okV_join (accA_ok hb hl j (by omega) fun i hi => h i (by omega)) (hl x (List.mem_of_getElem? hx)) (okA_iff hx (h j (by omega)))
theorem get_box4 {A R : MS} {a b c d a' b' c' d' e : MObj} : ((A ++ [a, b, c, d, e]) ++ R)[(A ++ [a', b', c', d']).length]? = some e := by rw [List.length_append, List.append_assoc, getElem?_own]; rfl
theorem okV_bottom (s : Sch) : okV (BottomF s) := by
 unfold BottomF
 split
 ·rename_i h; exact (bottom_is 16 s h).2
 ·exact okV_no
theorem all_cl {s : Sch} {v : Val} {l : List Val} {e : MV} {o : MObj} {d : Nat} (he : Cl d e) (ho : o ∈ [MObj.cells (encS s).cells, .cells [.int .u64 0, .int .u64 0, .lst0, .lst0, .lst0], .cells [e], .cells (encV v).cells, .cells [.lst none 5 (encVs l)]]) : o.cl d := by
 simp only [List.mem_cons, List.not_mem_nil, or_false] at ho
 rcases ho with rfl | rfl | rfl | rfl | rfl
 ·exact clo_S _ _
 ·exact clo_Z _
 ·exact clo_1 he
 ·exact clo_V _ _
 ·exact clo_1 (cl_encVl _ _)
theorem join_spec (s : Sch) (a b : Val) (ha : okV a) (hb : okV b) (S : MS) : MCalls Tryz.prog 58 [encS s, encV a, encV b] S fun v σ' => v = encJ (joinVF s a b) ∧ σ' = S := by
 obtain ⟨k, ins⟩ := s
 obtain ⟨n1, m1, s1, c1, w1⟩ := a
 obtain ⟨n2, m2, s2, c2, w2⟩ := b
 refine mcalls_body Tryz.func58 rfl Tryz.ntmps58 (Nat.le_of_ble_eq_true rfl) ?_
 refine mwp_seq <| qR rfl <| qB rfl rfl rfl rfl rfl <| qB rfl rfl rfl rfl rfl <| qB rfl rfl rfl rfl rfl <| qO rfl <| op_alloc' rfl zm30 rfl rfl <| qA rfl rfl rfl <| qN <| mwp_seq <| mwp_seq <| qR rfl <| qL rfl rfl rfl rfl ta24 rfl <| qL rfl rfl rfl rfl ta30 rfl ?_
 refine wOps_op rfl (op_call rfl rfl rfl co23 ((valIs_spec (.mk k ins) (.mk n1 m1 s1 c1 w1) ha _).mono ?_))
 rintro _ _ ⟨rfl, rfl⟩
 refine qO rfl <| op_not rfl rfl <| qM rfl rfl rfl ?_
 refine wOps_case (fun h12 => ?_) (fun h12 => ?_)
 ·
  refine qS rfl <| qS rfl <| qS rfl <| qS rfl <| qP rfl rfl rfl rfl <| qN <| mwp_cond_t rfl (rfl) <| mwp_seq <| qR rfl <| qO rfl <| op_build rfl Tryz.underlying30 zm30 .nil (by kernel_rfl) ?_
  refine qO rfl <| op_makeInterface rfl rfl Tryz.underlying58 (by simp) ?_
  refine qO rfl <| op_store' rfl rfl rfl rfl sz30 rfl rfl (Nat.le_of_ble_eq_true rfl) rfl <| qA rfl rfl rfl <| qN <| mwp_ret ?_
  exact ret_cell_tmp (.inr rfl) Tryz.results58 rfl rfl ta30 rfl (.agg (.cons (.refl _) (.cons (.refl _) (.cons (.nil 1) (.cons (.nil 1) (.cons (.nil 5) .nil)))))) (cl_encV _ (noV)) rfl (.refl _) (.iface _ _ (.int _ _)) ⟨by rw [join_err (fun hq => by first | (rw [hq.1] at h12; exact absurd h12 (by decide)) | (rw [hq.2] at h17; exact absurd h17 (by decide)))]; rfl, rfl⟩
 ·
  refine qL rfl rfl rfl rfl ta24 rfl <| qL rfl rfl rfl rfl ta30 rfl ?_
  refine wOps_op rfl (op_call rfl rfl rfl co23 ((valIs_spec (.mk k ins) (.mk n2 m2 s2 c2 w2) hb _).mono ?_))
  rintro _ _ ⟨rfl, rfl⟩
  refine qO rfl <| op_not rfl rfl <| qP rfl rfl rfl rfl <| qN ?_
  refine mwp_cond_split rfl (fun h17 => ?_) (fun h17 => ?_)
  ·
   refine mwp_seq <| qR rfl <| qO rfl <| op_build rfl Tryz.underlying30 zm30 .nil (by kernel_rfl) ?_
   refine qO rfl <| op_makeInterface rfl rfl Tryz.underlying58 (by simp) ?_
   refine qO rfl <| op_store' rfl rfl rfl rfl sz30 rfl rfl (Nat.le_of_ble_eq_true rfl) rfl <| qA rfl rfl rfl <| qN <| mwp_ret ?_
   exact ret_cell_tmp (.inr rfl) Tryz.results58 rfl rfl ta30 rfl (.agg (.cons (.refl _) (.cons (.refl _) (.cons (.nil 1) (.cons (.nil 1) (.cons (.nil 5) .nil)))))) (cl_encV _ (noV)) rfl (.refl _) (.iface _ _ (.int _ _)) ⟨by rw [join_err (fun hq => by first | (rw [hq.1] at h12; exact absurd h12 (by decide)) | (rw [hq.2] at h17; exact absurd h17 (by decide)))]; rfl, rfl⟩
  ·
   refine mwp_skip <| mwp_seq ?_
   have ha2 : (isF 16 (.mk k ins) && isVF (.mk k ins) (.mk n1 m1 s1 c1 w1)) = true := by simpa using h12
   have hb2 : (isF 16 (.mk k ins) && isVF (.mk k ins) (.mk n2 m2 s2 c2 w2)) = true := by simpa using h17
   have hof := both_spec 16 (.mk k ins) (by rw [Bool.and_eq_true] at ha2; exact ha2.1) (.mk n1 m1 s1 c1 w1) (.mk n2 m2 s2 c2 w2) (by rw [Bool.and_eq_true] at ha2; exact ha2.2) (by rw [Bool.and_eq_true] at hb2; exact hb2.2)
   obtain ⟨n3, m3, s3, c3, w3, h3⟩ := encO_of (bothF (.mk k ins) (.mk n1 m1 s1 c1 w1) (.mk n2 m2 s2 c2 w2))
   have hO : encO (bothF (.mk k ins) (.mk n1 m1 s1 c1 w1) (.mk n2 m2 s2 c2 w2)) = .tup [encV (.mk n3 m3 s3 c3 w3), errO (bothF (.mk k ins) (.mk n1 m1 s1 c1 w1) (.mk n2 m2 s2 c2 w2))] := by rw [encO, h3]
   rw [hO] at hof
   refine qR rfl <| qL rfl rfl rfl rfl ta24 rfl <| qL rfl rfl rfl rfl ta30 rfl <| qL rfl rfl rfl rfl ta30 rfl ?_
   refine wOps_op rfl (op_call rfl rfl rfl co83 ((hof _).mono ?_))
   rintro _ _ ⟨rfl, rfl⟩
   refine qO rfl <| op_extract rfl rfl rfl <| qO rfl <| op_extract rfl rfl rfl <| qO rfl <| op_store' rfl rfl rfl rfl sz30 rfl rfl (Nat.le_of_ble_eq_true rfl) rfl <| qA rfl rfl rfl <| qN <| mwp_ret ?_
   exact ret_cell_tmp (.inr rfl) Tryz.results58 rfl rfl ta30 rfl (.refl _) (cl_encV _ (.mk n3 m3 s3 c3 w3)) rfl (.refl _) ((cl_errO _ _)) ⟨by rw [join_both ha2 hb2, hO]; rfl, rfl⟩
theorem joinAll_spec (s : Sch) (l : List Val) (hl : ∀ x ∈ l, okV x) (S : MS) : MCalls Tryz.prog 32 [encS s, .lst none 5 (encVs l)] S fun v σ' => v = encJ (AllF s l) ∧ σ' = S := by
 obtain ⟨k, ins⟩ := s
 obtain ⟨⟨bn, bm, bs, bc, bw⟩, hbe⟩ : ∃ v, BottomF (.mk k ins) = v := ⟨_, rfl⟩
 have hbo := okV_bottom (.mk k ins)
 rw [hbe] at hbo
 have hbs := Bottom_spec (.mk k ins)
 rw [hbe] at hbs
 refine mcalls_body Tryz.func32 rfl Tryz.ntmps32 (Nat.le_of_ble_eq_true rfl) ?_
 refine mwp_seq <| qR rfl <| qB rfl rfl rfl rfl rfl <| qO rfl <| op_alloc' rfl zm30 rfl rfl <| qO rfl <| op_alloc' rfl zm34 rfl rfl <| qN <| mwp_seq <| mwp_seq <| qR rfl <| qL rfl rfl rfl rfl ta24 rfl ?_
 refine wOps_op rfl (op_call rfl rfl rfl co43 ((Is_spec (.mk k ins) _).mono ?_))
 rintro _ _ ⟨rfl, rfl⟩
 refine qO rfl <| op_not rfl rfl <| qN ?_
 refine mwp_cond_split rfl (fun h12 => ?_) (fun h12 => ?_)
 ·
  have hk : isF 16 (.mk k ins) = false := by simpa using h12
  refine mwp_seq <| qR rfl <| qO rfl <| op_build rfl Tryz.underlying30 zm30 .nil (by kernel_rfl) ?_
  refine qO rfl <| op_makeInterface rfl rfl Tryz.underlying58 (by simp) ?_
  refine qO rfl <| op_store' rfl rfl rfl rfl sz30 rfl rfl (Nat.le_of_ble_eq_true rfl) rfl <| qO rfl <| op_store' rfl rfl rfl rfl sz34 rfl rfl (Nat.le_of_ble_eq_true rfl) rfl <| qN <| mwp_ret ?_
  exact ret_cell_cell (.inr rfl) Tryz.results32 rfl rfl ta30 rfl (.agg (.cons (.refl _) (.cons (.refl _) (.cons (.nil 1) (.cons (.nil 1) (.cons (.nil 5) .nil)))))) (cl_encV _ (noV)) rfl rfl ta34 rfl (.refl _) (.iface _ _ (.int _ _)) ⟨by rw [show AllF (.mk k ins) l = .error 14 from by unfold AllF; rw [if_neg (by rw [hk]; decide)]]; rfl, rfl⟩
 ·
  have hk : isF 16 (.mk k ins) = true := by simpa using h12
  have hAF : AllF (.mk k ins) l = allGo (.mk k ins) (.mk bn bm bs bc bw) l := by unfold AllF; rw [if_pos hk, hbe]
  refine mwp_skip <| mwp_seq <| qR rfl <| qL rfl rfl rfl rfl ta24 rfl ?_
  refine wOps_op rfl (op_call rfl rfl rfl co60 ((hbs _).mono ?_))
  rintro _ _ ⟨rfl, rfl⟩
  refine qO rfl <| op_alloc' rfl zm30 rfl rfl <| qO rfl <| op_store' rfl rfl rfl rfl sz30 rfl rfl (Nat.le_of_ble_eq_true rfl) rfl <| qN <| mwp_seq <| mwp_seq <| qR rfl <| qM rfl rfl rfl ?_
  refine wOps_op rfl (op_call rfl rfl rfl co61 ((values_spec l _).mono ?_))
  rintro _ _ ⟨rfl, rfl⟩
  rw [List.append_assoc S]
  refine qN <| mwp_block ?_
  refine mwp_len (t := 1) rfl fun hlen => ?_
  rw [encVs_length] at hlen
  refine mwp_rangeB (ok := fun σ => σ.length = S.length + 6 ∧ σ[(S ++ [MObj.cells (encS (.mk k ins)).cells, MObj.cells [.int .u64 0, .int .u64 0, .lst0, .lst0, .lst0], MObj.cells [.iface0], .cells (encV (.mk bn bm bs bc bw)).cells]).length]? = some (.cells [.lst none 5 (encVs l)])) (ys := l.map fun x => [encV x]) .ret (.inl rfl) (fun j => okA (.mk k ins) (.mk bn bm bs bc bw) l j) (fun j => ([.cells (encS (.mk k ins)).cells, .cells [.int .u64 0, .int .u64 0, .lst0, .lst0, .lst0], .cells [.iface0], .cells (encV (accA (.mk k ins) (.mk bn bm bs bc bw) l j)).cells, .cells [.lst none 5 (encVs l)]] : MS)) (fun j => ([.cells (encS (.mk k ins)).cells, .cells [.int .u64 0, .int .u64 0, .lst0, .lst0, .lst0], .cells [encErr (errF (.mk k ins) (.mk bn bm bs bc bw) l)], .cells (encV (accA (.mk k ins) (.mk bn bm bs bc bw) l j)).cells, .cells [.lst none 5 (encVs l)]] : MS)) (fun j => rfl) (fun j => rfl) rfl (fun j o ho n hn => all_cl .iface0 ho) (fun j o ho n hn => all_cl (.iface _ _ (.int _ _)) ho) rfl co89 rfl (by simp) (values_iter l hlen _ _) (fun j => ⟨by simp only [List.length_append, List.length_cons, List.length_nil], get_box4⟩) (fun j s q => ⟨by simp only [List.length_append, List.length_cons, List.length_nil], get_box4⟩) rfl (fun y hy => by obtain ⟨i, _, rfl⟩ := List.mem_map.1 hy; rfl) ?_ ?_ ?_
  ·
   intro j y hy hbef L'
   rw [List.getElem?_map] at hy
   obtain ⟨⟨n1, m1, s1, c1, w1⟩, hs, rfl⟩ := Option.map_eq_some_iff.1 hy
   have hjl := (List.getElem?_eq_some_iff.1 hs).1
   have hov := accA_ok (s := .mk k ins) hbo hl j (by omega) hbef
   obtain ⟨⟨n2, m2, s2, c2, w2⟩, hacc⟩ : ∃ v, accA (.mk k ins) (.mk bn bm bs bc bw) l j = v := ⟨_, rfl⟩
   rw [hacc] at hov
   have hof := join_spec (.mk k ins) _ _ hov (hl _ (List.mem_of_getElem? hs))
   have hD := getD_at hs
   simp only [hacc]
   refine qR rfl <| qO rfl <| op_alloc rfl zm30 <| qO rfl <| op_store_last rfl rfl rfl sz30 rfl rfl (Nat.le_of_ble_eq_true rfl) <| qN ?_
   refine ⟨rfl, [_], rfl, ?_⟩
   rw [List.append_assoc (S ++ _)]
   refine mwp_abs fun R hR => ?_
   refine mwp_block <| mwp_seq ?_
   rcases hj : joinVF (.mk k ins) (.mk n2 m2 s2 c2 w2) (.mk n1 m1 s1 c1 w1) with e | ⟨n3, m3, s3, c3, w3⟩ <;> rw [hj] at hof
   ·
    refine qR rfl <| qO rfl <| op_load_mid rfl rfl rfl ta24 rfl <| qO rfl <| op_load_mid rfl rfl rfl ta30 rfl <| qO rfl <| op_load_ref rfl rfl (by rw [hR]; exact get_rt) ta30 rfl ?_
    refine wOps_op rfl (op_call rfl rfl rfl co58 ((hof _).mono ?_))
    rintro _ _ ⟨rfl, rfl⟩
    refine qM rfl rfl rfl <| qO rfl <| op_extract rfl rfl rfl <| qO rfl <| op_extract rfl rfl rfl <| qO rfl <| op_alloc rfl zm30 <| qO rfl <| op_store_last rfl rfl rfl sz30 rfl rfl (Nat.le_of_ble_eq_true rfl) <| qA rfl rfl rfl <| qN <| mwp_seq <| mwp_seq <| qR rfl <| qM rfl rfl rfl <| qO rfl <| op_ifnil rfl Tryz.underlying34 rfl rfl (.inr ⟨rfl, rfl⟩) <| qN <| mwp_cond_t rfl (rfl) <| mwp_seq ?_
    rw [List.append_assoc (S ++ _)]
    refine qR rfl <| qO rfl <| op_build rfl Tryz.underlying30 zm30 .nil (by kernel_rfl) ?_
    refine qM rfl rfl rfl <| qO rfl <| op_store_mid rfl rfl rfl rfl sz30 rfl rfl (Nat.le_of_ble_eq_true rfl) rfl <| qO rfl <| op_store_mid rfl rfl rfl rfl sz34 rfl rfl (Nat.le_of_ble_eq_true rfl) rfl <| qN <| mwp_ret ?_
    exact .inr ⟨by rw [okA, hacc, hD, hj], rfl, [_, _], by rw [hR, show errF (.mk k ins) (.mk bn bm bs bc bw) l = e from by rw [errF_eq hs hbef (by rw [okA, hacc, hD, hj]), errA, hacc, hD, hj]]; simp only [List.append_assoc, List.cons_append, List.nil_append]; rfl⟩
   ·
    refine qR rfl <| qO rfl <| op_load_mid rfl rfl rfl ta24 rfl <| qO rfl <| op_load_mid rfl rfl rfl ta30 rfl <| qO rfl <| op_load_ref rfl rfl (by rw [hR]; exact get_rt) ta30 rfl ?_
    refine wOps_op rfl (op_call rfl rfl rfl co58 ((hof _).mono ?_))
    rintro _ _ ⟨rfl, rfl⟩
    refine qM rfl rfl rfl <| qO rfl <| op_extract rfl rfl rfl <| qO rfl <| op_extract rfl rfl rfl <| qO rfl <| op_alloc rfl zm30 <| qO rfl <| op_store_last rfl rfl rfl sz30 rfl rfl (Nat.le_of_ble_eq_true rfl) <| qA rfl rfl rfl <| qN <| mwp_seq <| mwp_seq <| qR rfl <| qM rfl rfl rfl <| qO rfl <| op_if0 rfl Tryz.underlying34 rfl rfl (.inr ⟨rfl, rfl⟩) <| qN <| mwp_cond_f rfl (rfl) <| mwp_skip ?_
    rw [List.append_assoc (S ++ _)]
    refine qR rfl <| qO rfl <| op_load_ref rfl rfl (get_end (by simp)) ta30 rfl ?_
    refine qO rfl <| op_store_mid rfl rfl rfl rfl sz30 rfl rfl (Nat.le_of_ble_eq_true rfl) rfl <| qN ?_
    exact .inl ⟨by rw [okA, hacc, hD, hj], rfl, [_, _], by rw [hR, show accA (.mk k ins) (.mk bn bm bs bc bw) l (j + 1) = .mk n3 m3 s3 c3 w3 from by rw [accA, hacc, hD, hj]]; simp only [List.append_assoc, List.cons_append, List.nil_append]; rfl⟩
  ·
   intro hall
   rw [List.append_assoc S, List.length_map]
   have hok := all_ok (s := .mk k ins) (b := (.mk bn bm bs bc bw)) (l := l) (fun i hi => hall i (by rw [List.length_map]; exact hi))
   obtain ⟨⟨n2, m2, s2, c2, w2⟩, hacc⟩ : ∃ v, accA (.mk k ins) (.mk bn bm bs bc bw) l l.length = v := ⟨_, rfl⟩
   rw [hacc] at hok
   simp only [hacc]
   refine mwp_seq <| qR rfl <| qL rfl rfl rfl rfl ta30 rfl <| qO rfl <| op_store' rfl rfl rfl rfl sz30 rfl rfl (Nat.le_of_ble_eq_true rfl) rfl <| qO rfl <| op_store' rfl rfl rfl rfl sz34 rfl rfl (Nat.le_of_ble_eq_true rfl) rfl <| qN <| mwp_ret ?_
   exact ret_cell_cell (.inr rfl) Tryz.results32 rfl rfl ta30 rfl (.refl _) (cl_encV _ (.mk n2 m2 s2 c2 w2)) rfl rfl ta34 rfl (.refl _) (.iface0) ⟨by rw [hAF, hok]; rfl, rfl⟩
  ·
   intro j y hy hp
   rw [List.append_assoc S]
   rw [List.getElem?_map] at hy
   obtain ⟨x, hs, rfl⟩ := Option.map_eq_some_iff.1 hy
   exact ret_cell_cell (.inr rfl) Tryz.results32 rfl rfl ta30 rfl (.agg (.cons (.refl _) (.cons (.refl _) (.cons (.nil 1) (.cons (.nil 1) (.cons (.nil 5) .nil)))))) (cl_encV _ (noV)) rfl rfl ta34 rfl (.refl _) (.iface _ _ (.int _ _)) ⟨by rw [hAF, all_badF hs hp]; rfl, rfl⟩
end Go.Proofs.YtnfcnpdpfgcchaaGreat
end
section
set_option linter.unusedVariables false
set_option linter.unusedSimpArgs false
set_option maxHeartbeats 1000000
set_option maxRecDepth 20000
namespace Go.Proofs.YtnfcnpdpfgcchaaGreat
open Go Go.MV Go.RowKit Go.Extern.Stop Go.Extern
theorem tT (v : Value) (w : World) : (Extern.ReflectliteType.typeOf #[.iface 58 v]).run Tryz.prog w = .ok (.iface 94 (.agg #[.pointer (some ⟨Tryz.prog.globals.size, 58, none⟩)])) w := by kernel_rfl
theorem cT (w : World) : ((Extern.ReflectliteType.method fun t => do Extern.Rtype.noPackHeld "Comparable" t; pure (.bool (← typeInfo t).comparable)) #[.agg #[.pointer (some ⟨Tryz.prog.globals.size, 58, none⟩)]]).run Tryz.prog w = .ok (.bool true) w := by kernel_rfl
theorem mR (v : Value) (w : World) : (Go.method 300 94 v "Comparable").run Tryz.prog w = .ok (166, v) w := by kernel_rfl
theorem errComp : (Tryz.prog.info? 58).map (·.comparable) = some true := by kernel_rfl
theorem eqErr (n : Int) (w : World) : (binOp .eql 34 (.iface 58 (.int .i64 n)) (.iface 58 (.int .i64 n))).run Tryz.prog w = .ok (.bool true) w := by
  obtain ⟨i, hi, hcmp⟩ := Option.map_eq_some_iff.1 errComp
  have h : ∀ d : Nat, (Op.equalIn (d + 2) 34 (.iface 58 (.int .i64 n)) (.iface 58 (.int .i64 n))).run Tryz.prog w = .ok true w := fun d => by
    simp [Op.equalIn, run_underlying Tryz.underlying34, run_underlying Tryz.underlying58, typeInfo, hi, hcmp]
  simp only [binOp]
  simp [Op.equal, Op.maxDepth, h 9998]
theorem nilErr (v : Value) (w : World) : (binOp .eql 34 (.iface 58 v) .nilIface).run Tryz.prog w = .ok (.bool false) w := by
  have h : ∀ d : Nat, (Op.equalIn (d + 1) 34 (.iface 58 v) .nilIface).run Tryz.prog w = .ok false w := fun d => by simp [Op.equalIn, run_underlying Tryz.underlying34]
  simp only [binOp]
  simp [Op.equal, Op.maxDepth, h 9999]
theorem isSame (n : Int) (w : World) : Calls Tryz.prog 20 #[.iface 58 (.int .i64 n), .iface 58 (.int .i64 n)] w fun e w' => e = .returned (.bool true) ∧ w' = w := by
  have h8 := @run_callFunc_extern Tryz.prog 35 _ Extern.ReflectliteType.typeOf Tryz.func35 (by kernel_rfl) (by kernel_rfl) (by kernel_rfl) (by kernel_rfl)
  have h32 := @run_callFunc_extern Tryz.prog 166 _ (Extern.ReflectliteType.method fun t => do Extern.Rtype.noPackHeld "Comparable" t; pure (.bool (← typeInfo t).comparable)) Tryz.func166 (by kernel_rfl) (by kernel_rfl) (by kernel_rfl) (by kernel_rfl)
  obtain ⟨H, hT, hC⟩ : ∃ H : Value, (∀ (v : Value) (w : World), (callFunc 35 #[.iface 58 v]).run Tryz.prog w = .ok (.value (.iface 94 H)) w) ∧ (∀ w : World, (callFunc 166 #[H]).run Tryz.prog w = .ok (.value (.bool true)) w) := ⟨_, fun v w => by rw [h8, tT]; rfl, fun w => by rw [h32, cT]; rfl⟩
  clear h8 h32
  have mR := mR
  have heq := eqErr n w
  have hnil := nilErr (.int .i64 n) w
  go_enter Tryz.func20, Tryz.ntmps20
  go_wp2
  refine wp_loop_rounds 1 ?_
  rw [rounds_succ]
  go_wp2
  go_ret
  exact ⟨rfl, rfl⟩
theorem errIs_spec (n : Int) (S : MS) : MCalls Tryz.prog 20 [.iface 58 (.int .i64 n), .iface 58 (.int .i64 n)] S fun v σ' => v = .bool true ∧ σ' = S := by
  intro g w vs hrel hrd
  obtain ⟨u, us, rfl, h1, h2⟩ := hrd.uncons
  obtain ⟨u2, us2, rfl, h3, h4⟩ := h2.uncons
  obtain ⟨a, rfl, ha⟩ := h1.inv_iface
  obtain ⟨b, rfl, hb⟩ := h3.inv_iface
  have e1 := ha.inv_int
  have e2 := hb.inv_int
  have e3 : us2 = [] := List.eq_nil_of_length_eq_zero h4.1
  subst e1 e2 e3
  refine (callsIn_wide.2 (isSame n w)).mono ?_
  rintro e w' ⟨rfl, rfl⟩
  exact ⟨_, rfl, .bool true, S, g, ⟨rfl, rfl⟩, hrel, .bool _, .refl _ _⟩
end Go.Proofs.YtnfcnpdpfgcchaaGreat
end
section
set_option linter.unusedVariables false
set_option linter.unusedSimpArgs false
namespace Go.MV
open Go Go.RowKit
section
variable {P : Program} {rd : Option Nat} {o : Oper} {env : Env} {σ : MS} {K : MV → MS → Prop}
theorem op_ifint {b : BinOp} {r : Bool} {t e t' : TypeId} {x y : Operand} {k k' : IntKind} {m n : Int} {ms : Array (String × TypeId)} (ho : o.op = .binOp b t x y t') (hu : P.underlying t = some (.interface ms)) (hc : (P.info? e).map (·.comparable) = some true) (he : P.underlying e = some (.int k'))
    (hx : evo env x = some (.iface e (.int k m))) (hy : evo env y = some (.iface e (.int k n))) (hb : b = .eql ∧ r = (m == n) ∨ b = .neq ∧ r = !(m == n)) (h : K (.bool r) σ) : OpWp P rd o env σ K := by
  refine OpWp.of_run (by rcases hb with ⟨rfl, _⟩ | ⟨rfl, _⟩ <;> simp [ho]) fun g w a hr hop => ?_
  obtain ⟨u, e1, h1⟩ := (hop x (by simp [ho, Op.operands]) _ hx).inv_iface
  obtain ⟨u2, e2, h2⟩ := (hop y (by simp [ho, Op.operands]) _ hy).inv_iface
  have h1 := h1.inv_int
  have h2 := h2.inv_int
  subst h1 h2
  refine ⟨.bool r, w, ?_, .same h hr (.bool _)⟩
  obtain ⟨i, hi, hcmp⟩ := Option.map_eq_some_iff.1 hc
  have h9 : ∀ d : Nat, (Op.equalIn (d + 2) t (.iface e (.int k m)) (.iface e (.int k n))).run P w = .ok (m == n) w := fun d => by
    simp [Op.equalIn, run_underlying hu, run_underlying he, typeInfo, hi, hcmp]
  rcases hb with ⟨rfl, rfl⟩ | ⟨rfl, rfl⟩ <;> (simp only [execOp, ho, e1, e2, Sem.run_bind, Sem.run_pure]; simp [eqGuard, binOp, Op.equal, Op.maxDepth, h9 9998])
theorem op_nilif {b : BinOp} {r : Bool} {t e t' : TypeId} {x y : Operand} {m : MV} {ms : Array (String × TypeId)} (ho : o.op = .binOp b t x y t') (hu : P.underlying t = some (.interface ms)) (hx : evo env x = some .iface0) (hy : evo env y = some (.iface e m)) (hb : b = .eql ∧ r = false ∨ b = .neq ∧ r = true) (h : K (.bool r) σ) : OpWp P rd o env σ K := by
  refine OpWp.of_run (by rcases hb with ⟨rfl, rfl⟩ | ⟨rfl, rfl⟩ <;> simp [ho]) fun g w a hr hop => ?_
  obtain ⟨u, e1, _⟩ := (hop y (by simp [ho, Op.operands]) _ hy).inv_iface
  have e2 := (hop x (by simp [ho, Op.operands]) _ hx).inv_iface0
  refine ⟨.bool r, w, ?_, .same h hr (.bool _)⟩
  have h9 : ∀ d : Nat, (Op.equalIn (d + 1) t .nilIface (.iface e u)).run P w = .ok false w := fun d => by simp [Op.equalIn, run_underlying hu]
  rcases hb with ⟨rfl, rfl⟩ | ⟨rfl, rfl⟩ <;> (simp only [execOp, ho, e1, e2, Sem.run_bind, Sem.run_pure]; simp [eqGuard, binOp, Op.equal, Op.maxDepth, h9 9999])
end
end Go.MV
end
section
set_option linter.unusedVariables false
set_option linter.unusedSimpArgs false
set_option maxRecDepth 20000
set_option maxHeartbeats 400000
namespace Go.Proofs.YtnfcnpdpfgcchaaGreat
open Go Go.MV
theorem joinE {s : Sch} {a b : Val} {e : Int} (h : joinVF s a b = .error e) : e = 13 ∨ e = 14 := by
 unfold joinVF at h
 split at h
 ·split at h
  ·cases h
  ·injection h with h; exact .inl h.symm
 ·injection h with h; exact .inr h.symm
theorem joinR (s : Sch) (a b : Val) : (∃ n m t c w, joinVF s a b = .ok (.mk n m t c w)) ∨ joinVF s a b = .error 13 ∨ joinVF s a b = .error 14 := by
 cases h : joinVF s a b with
 | ok v => obtain ⟨n, m, t, c, w⟩ := v; exact .inl ⟨_, _, _, _, _, rfl⟩
 | error e =>
  rcases joinE h with rfl | rfl
  ·exact .inr (.inl rfl)
  ·exact .inr (.inr rfl)
noncomputable def leqVF (s : Sch) (a b : Val) : Except Int Bool := match joinVF s a b with | .ok j => .ok (decide (j = b)) | .error e => if e = 14 then .error 14 else .ok false
def encL (r : Except Int Bool) : MV := .tup [.bool (match r with | .error _ => false | .ok v => v), match r with | .error n => encErr n | .ok _ => .iface0]
theorem leq_ok {s : Sch} {a b j : Val} (h : joinVF s a b = .ok j) : leqVF s a b = .ok (decide (j = b)) := by unfold leqVF; rw [h]
theorem leq_13 {s : Sch} {a b : Val} (h : joinVF s a b = .error 13) : leqVF s a b = .ok false := by unfold leqVF; rw [h]; rfl
theorem leq_14 {s : Sch} {a b : Val} (h : joinVF s a b = .error 14) : leqVF s a b = .error 14 := by unfold leqVF; rw [h]; rfl
theorem exE {α : Type} (r : Except Int α) : (∃ e, r = .error e) ∨ ∃ v, r = .ok v := by
 cases r with
 | error e => exact .inl ⟨e, rfl⟩
 | ok v => exact .inr ⟨v, rfl⟩
theorem okCmp : (Tryz.prog.info? 58).map (·.comparable) = some true := by kernel_rfl
theorem leq_spec (s : Sch) (a b : Val) (ha : okV a) (hb : okV b) (S : MS) : MCalls Tryz.prog 31 [encS s, encV a, encV b] S fun v σ' => v = encL (leqVF s a b) ∧ σ' = S := by
 obtain ⟨k, ins⟩ := s
 obtain ⟨n1, m1, s1, c1, w1⟩ := a
 obtain ⟨n2, m2, s2, c2, w2⟩ := b
 refine mcalls_body Tryz.func31 rfl Tryz.ntmps31 (Nat.le_of_ble_eq_true rfl) ?_
 refine mwp_seq <| qR rfl <| qB rfl rfl rfl rfl rfl <| qB rfl rfl rfl rfl rfl <| qB rfl rfl rfl rfl rfl <| qA rfl rfl rfl <| qA rfl rfl rfl <| qN <| mwp_seq ?_
 have hof := join_spec (.mk k ins) (.mk n1 m1 s1 c1 w1) (.mk n2 m2 s2 c2 w2) ha hb
 rcases joinR (.mk k ins) (.mk n1 m1 s1 c1 w1) (.mk n2 m2 s2 c2 w2) with ⟨n3, m3, s3, c3, w3, hj⟩ | hj | hj <;> rw [hj] at hof
 ·
  refine qR rfl <| qL rfl rfl rfl rfl ta24 rfl <| qL rfl rfl rfl rfl ta30 rfl <| qL rfl rfl rfl rfl ta30 rfl ?_
  refine wOps_op rfl (op_call rfl rfl rfl co58 ((hof _).mono ?_))
  rintro _ _ ⟨rfl, rfl⟩
  refine qM rfl rfl rfl <| qO rfl <| op_extract rfl rfl rfl <| qO rfl <| op_extract rfl rfl rfl <| qO rfl <| op_alloc' rfl zm30 rfl rfl <| qO rfl <| op_store' rfl rfl rfl rfl sz30 rfl rfl (Nat.le_of_ble_eq_true rfl) rfl <| qA rfl rfl rfl <| qN <| mwp_seq <| mwp_seq <| qR rfl <| qM rfl rfl rfl <| qN <| mwp_block <| mwp_seq <| qR rfl <| qO rfl <| op_makeInterface rfl rfl Tryz.underlying58 (by simp) ?_
  refine qO rfl <| op_nilif rfl Tryz.underlying34 rfl rfl (.inl ⟨rfl, rfl⟩) <| qA rfl rfl rfl <| qN <| mwp_cond_f rfl (rfl) <| mwp_seq <| qR rfl <| qO rfl <| op_if0 rfl Tryz.underlying34 rfl rfl (.inl ⟨rfl, rfl⟩) <| qA rfl rfl rfl <| qN <| mwp_cond_t rfl (rfl) <| mwp_seq <| qR rfl <| qL rfl rfl rfl rfl ta30 rfl <| qL rfl rfl rfl rfl ta30 rfl ?_
  refine wOps_op rfl (op_call rfl rfl rfl co59 ((valSame_spec (.mk n3 m3 s3 c3 w3) (.mk n2 m2 s2 c2 w2) _).mono ?_))
  rintro _ _ ⟨rfl, rfl⟩
  refine qA rfl rfl rfl <| qA rfl rfl rfl <| qN <| mwp_ret ?_
  exact ret_tmp2 (.inr rfl) Tryz.results31 rfl rfl (.refl _) (.refl _) (.bool _) (.iface0) ⟨by rw [leq_ok hj]; rfl, rfl⟩
 ·
  refine qR rfl <| qL rfl rfl rfl rfl ta24 rfl <| qL rfl rfl rfl rfl ta30 rfl <| qL rfl rfl rfl rfl ta30 rfl ?_
  refine wOps_op rfl (op_call rfl rfl rfl co58 ((hof _).mono ?_))
  rintro _ _ ⟨rfl, rfl⟩
  refine qM rfl rfl rfl <| qO rfl <| op_extract rfl rfl rfl <| qO rfl <| op_extract rfl rfl rfl <| qO rfl <| op_alloc' rfl zm30 rfl rfl <| qO rfl <| op_store' rfl rfl rfl rfl sz30 rfl rfl (Nat.le_of_ble_eq_true rfl) rfl <| qA rfl rfl rfl <| qN <| mwp_seq <| mwp_seq <| qR rfl <| qM rfl rfl rfl <| qN <| mwp_block <| mwp_seq <| qR rfl <| qO rfl <| op_makeInterface rfl rfl Tryz.underlying58 (by simp) ?_
  refine qO rfl <| op_ifint rfl Tryz.underlying34 okCmp Tryz.underlying58 rfl rfl (.inl ⟨rfl, rfl⟩) <| qA rfl rfl rfl <| qN <| mwp_cond_f rfl (rfl) <| mwp_seq <| qR rfl <| qO rfl <| op_ifnil rfl Tryz.underlying34 rfl rfl (.inl ⟨rfl, rfl⟩) <| qA rfl rfl rfl <| qN <| mwp_cond_f rfl (rfl) <| mwp_skip <| mwp_seq <| qR rfl <| qA rfl rfl rfl <| qA rfl rfl rfl <| qN <| mwp_ret ?_
  exact ret_tmp2 (.inr rfl) Tryz.results31 rfl rfl (.refl _) (.refl _) (.bool _) (.iface0) ⟨by rw [leq_13 hj]; rfl, rfl⟩
 ·
  refine qR rfl <| qL rfl rfl rfl rfl ta24 rfl <| qL rfl rfl rfl rfl ta30 rfl <| qL rfl rfl rfl rfl ta30 rfl ?_
  refine wOps_op rfl (op_call rfl rfl rfl co58 ((hof _).mono ?_))
  rintro _ _ ⟨rfl, rfl⟩
  refine qM rfl rfl rfl <| qO rfl <| op_extract rfl rfl rfl <| qO rfl <| op_extract rfl rfl rfl <| qO rfl <| op_alloc' rfl zm30 rfl rfl <| qO rfl <| op_store' rfl rfl rfl rfl sz30 rfl rfl (Nat.le_of_ble_eq_true rfl) rfl <| qA rfl rfl rfl <| qN <| mwp_seq <| mwp_seq <| qR rfl <| qM rfl rfl rfl <| qN <| mwp_block <| mwp_seq <| qR rfl <| qO rfl <| op_makeInterface rfl rfl Tryz.underlying58 (by simp) ?_
  refine qO rfl <| op_ifint rfl Tryz.underlying34 okCmp Tryz.underlying58 rfl rfl (.inl ⟨rfl, rfl⟩) <| qA rfl rfl rfl <| qN <| mwp_cond_t rfl (rfl) <| mwp_seq <| qR rfl <| qO rfl <| op_makeInterface rfl rfl Tryz.underlying58 (by simp) ?_
  refine qA rfl rfl rfl <| qA rfl rfl rfl <| qN <| mwp_ret ?_
  exact ret_tmp2 (.inr rfl) Tryz.results31 rfl rfl (.refl _) (.refl _) (.bool _) (.iface _ _ (.int _ _)) ⟨by rw [leq_14 hj]; rfl, rfl⟩
end Go.Proofs.YtnfcnpdpfgcchaaGreat
end
section
set_option linter.unusedVariables false
set_option linter.unusedSimpArgs false
namespace Go.Proofs.YtnfcnpdpfgcchaaGreat
open Go Go.MV Go.RowKit
abbrev ltB (a b : Bs) : Prop := Op.bytesLess a b = true
theorem ltB_cons {x y : UInt8} {a b : Bs} : ltB (x :: a) (y :: b) ↔ x < y ∨ (x = y ∧ ltB a b) := by
  unfold ltB
  simp [Op.bytesLess]
theorem ltB_irrefl : ∀ a : Bs, ¬ ltB a a
  | [] => by simp [ltB, Op.bytesLess]
  | x :: a => by
    rw [ltB_cons]
    rintro (h | ⟨_, h⟩)
    · exact UInt8.lt_irrefl _ h
    · exact ltB_irrefl a h
theorem ltB_trans : ∀ {a b c : Bs}, ltB a b → ltB b c → ltB a c
  | _, [], _, h, _ => by simp [ltB, Op.bytesLess] at h
  | _, _ :: _, [], _, h => by simp [ltB, Op.bytesLess] at h
  | [], _ :: _, _ :: _, _, _ => by simp [ltB, Op.bytesLess]
  | x :: a, y :: b, z :: c, h1, h2 => by
    rw [ltB_cons] at h1 h2 ⊢
    rcases h1 with h1 | ⟨rfl, h1⟩
    · rcases h2 with h2 | ⟨rfl, h2⟩
      · exact .inl (UInt8.lt_trans h1 h2)
      · exact .inl h1
    · rcases h2 with h2 | ⟨rfl, h2⟩
      · exact .inl h2
      · exact .inr ⟨rfl, ltB_trans h1 h2⟩
theorem ltB_total : ∀ a b : Bs, ltB a b ∨ a = b ∨ ltB b a
  | [], [] => .inr (.inl rfl)
  | [], _ :: _ => .inl (by simp [ltB, Op.bytesLess])
  | _ :: _, [] => .inr (.inr (by simp [ltB, Op.bytesLess]))
  | x :: a, y :: b => by
    rw [ltB_cons, ltB_cons]
    by_cases h1 : x < y
    · exact .inl (.inl h1)
    · by_cases h2 : y < x
      · exact .inr (.inr (.inl h2))
      · have e : x = y := UInt8.le_antisymm (UInt8.not_lt.1 h2) (UInt8.not_lt.1 h1)
        subst e
        rcases ltB_total a b with h | rfl | h
        · exact .inl (.inr ⟨rfl, h⟩)
        · exact .inr (.inl rfl)
        · exact .inr (.inr (.inr ⟨rfl, h⟩))
theorem ltB_asymm {a b : Bs} (h : ltB a b) : ¬ ltB b a := fun h2 => ltB_irrefl _ (ltB_trans h h2)
def Up (l : List Bs) : Prop := l.Pairwise ltB
theorem rises_up : ∀ l : List Bs, risesF l = true ↔ Up l
  | [] => by simp [risesF, Up]
  | [x] => by simp [risesF, Up]
  | x :: y :: l => by
    rw [risesF, Bool.and_eq_true, rises_up (y :: l)]
    unfold Up
    rw [List.pairwise_cons (a := x)]
    constructor
    · rintro ⟨h1, h2⟩
      refine ⟨fun z hz => ?_, h2⟩
      rcases List.mem_cons.1 hz with rfl | hz
      · exact h1
      · exact ltB_trans h1 ((List.pairwise_cons.1 h2).1 z hz)
    · rintro ⟨h1, h2⟩
      exact ⟨h1 y (.head _), h2⟩
theorem up_cons {x : Bs} {l : List Bs} : Up (x :: l) ↔ (∀ y ∈ l, ltB x y) ∧ Up l := List.pairwise_cons
theorem up_ext : ∀ {a b : List Bs}, Up a → Up b → (∀ x, x ∈ a ↔ x ∈ b) → a = b
  | [], [], _, _, _ => rfl
  | [], y :: b, _, _, h => absurd ((h y).2 (.head _)) (by simp)
  | x :: a, [], _, _, h => absurd ((h x).1 (.head _)) (by simp)
  | x :: a, y :: b, ha, hb, h => by
    have ha' := up_cons.1 ha
    have hb' := up_cons.1 hb
    have e : x = y := by
      rcases List.mem_cons.1 ((h x).1 (.head _)) with e | hx
      · exact e
      · rcases List.mem_cons.1 ((h y).2 (.head _)) with e | hy
        · exact e.symm
        · exact absurd (hb'.1 x hx) (ltB_asymm (ha'.1 y hy))
    subst e
    congr 1
    refine up_ext ha'.2 hb'.2 fun z => ⟨fun hz => ?_, fun hz => ?_⟩
    · rcases List.mem_cons.1 ((h z).1 (.tail _ hz)) with rfl | hz2
      · exact absurd (ha'.1 _ hz) (ltB_irrefl _)
      · exact hz2
    · rcases List.mem_cons.1 ((h z).2 (.tail _ hz)) with rfl | hz2
      · exact absurd (hb'.1 _ hz) (ltB_irrefl _)
      · exact hz2
theorem mem_both : ∀ (a b : List Bs) (z : Bs), z ∈ bothX a b ↔ z ∈ a ∨ z ∈ b := by
  intro a b
  induction a, b using bothX.induct with
  | case1 => simp [bothX]
  | case2 x a ih => intro z; rw [bothX, List.mem_cons, ih]; simp
  | case3 y b ih => intro z; rw [bothX, List.mem_cons, ih]; simp
  | case4 x a y b h ih => intro z; rw [bothX, if_pos h, List.mem_cons, ih]; simp [or_assoc]
  | case5 x a y b h h2 ih => intro z; rw [bothX, if_neg h, if_pos h2, List.mem_cons, ih]; simp only [List.mem_cons]; exact or_left_comm
  | case6 x a y b h h2 ih =>
    intro z
    have e : x = y := by
      rcases ltB_total x y with h3 | h3 | h3
      · exact absurd h3 h
      · exact h3
      · exact absurd h3 h2
    subst e
    rw [bothX, if_neg h, if_neg h2, List.mem_cons, ih]
    simp only [List.mem_cons]
    constructor
    · rintro (h | h | h)
      · exact .inl (.inl h)
      · exact .inl (.inr h)
      · exact .inr (.inr h)
    · rintro ((h | h) | (h | h))
      · exact .inl h
      · exact .inr (.inl h)
      · exact .inl h
      · exact .inr (.inr h)
theorem up_both : ∀ (a b : List Bs), Up a → Up b → Up (bothX a b) := by
  intro a b
  induction a, b using bothX.induct with
  | case1 => intro _ _; simp [bothX, Up]
  | case2 x a ih =>
    intro ha hb
    rw [bothX]
    refine up_cons.2 ⟨fun z hz => ?_, ih (up_cons.1 ha).2 hb⟩
    rw [mem_both] at hz
    exact (up_cons.1 ha).1 z (by simpa using hz)
  | case3 y b ih =>
    intro ha hb
    rw [bothX]
    refine up_cons.2 ⟨fun z hz => ?_, ih ha (up_cons.1 hb).2⟩
    rw [mem_both] at hz
    exact (up_cons.1 hb).1 z (by simpa using hz)
  | case4 x a y b h ih =>
    intro ha hb
    rw [bothX, if_pos h]
    refine up_cons.2 ⟨fun z hz => ?_, ih (up_cons.1 ha).2 hb⟩
    rw [mem_both] at hz
    rcases hz with hz | hz
    · exact (up_cons.1 ha).1 z hz
    · rcases List.mem_cons.1 hz with rfl | hz
      · exact h
      · exact ltB_trans h ((up_cons.1 hb).1 z hz)
  | case5 x a y b h h2 ih =>
    intro ha hb
    rw [bothX, if_neg h, if_pos h2]
    refine up_cons.2 ⟨fun z hz => ?_, ih ha (up_cons.1 hb).2⟩
    rw [mem_both] at hz
    rcases hz with hz | hz
    · rcases List.mem_cons.1 hz with rfl | hz
      · exact h2
      · exact ltB_trans h2 ((up_cons.1 ha).1 z hz)
    · exact (up_cons.1 hb).1 z hz
  | case6 x a y b h h2 ih =>
    intro ha hb
    have e : x = y := by
      rcases ltB_total x y with h3 | h3 | h3
      · exact absurd h3 h
      · exact h3
      · exact absurd h3 h2
    subst e
    rw [bothX, if_neg h, if_neg h2]
    refine up_cons.2 ⟨fun z hz => ?_, ih (up_cons.1 ha).2 (up_cons.1 hb).2⟩
    rw [mem_both] at hz
    rcases hz with hz | hz
    · exact (up_cons.1 ha).1 z hz
    · exact (up_cons.1 hb).1 z hz
end Go.Proofs.YtnfcnpdpfgcchaaGreat
end
section
set_option linter.unusedVariables false
set_option linter.unusedSimpArgs false
namespace Go.Proofs.YtnfcnpdpfgcchaaGreat
open Go Go.MV Go.RowKit
section
variable {κ : Type} {cmp : κ → κ → Int}
structure OrdK (cmp : κ → κ → Int) : Prop where
  irr : ∀ a, ¬ cmp a a < 0
  tr : ∀ a b c, cmp a b < 0 → cmp b c < 0 → cmp a c < 0
  tot : ∀ a b, ¬ cmp a b < 0 → ¬ cmp b a < 0 → a = b
open Classical in
noncomputable def look (l : List (κ × Val)) (k : κ) : Option Val := match l with
  | [] => none
  | e :: l => if e.1 = k then some e.2 else look l k
open Classical in
theorem look_cons (e : κ × Val) (l : List (κ × Val)) (k : κ) : look (e :: l) k = if e.1 = k then some e.2 else look l k := rfl
def SrtK (cmp : κ → κ → Int) (l : List (κ × Val)) : Prop := l.Pairwise fun x y => cmp x.1 y.1 < 0
def HasK (l : List (κ × Val)) (k : κ) : Prop := ∃ e ∈ l, e.1 = k
theorem look_none {l : List (κ × Val)} {k : κ} (h : ¬ HasK l k) : look l k = none := by
  induction l with
  | nil => rfl
  | cons e l ih =>
    rw [look, if_neg (fun he => h ⟨e, .head _, he⟩)]
    exact ih fun ⟨x, hx, e2⟩ => h ⟨x, .tail _ hx, e2⟩
theorem srt_cons {e : κ × Val} {l : List (κ × Val)} : SrtK cmp (e :: l) ↔ (∀ y ∈ l, cmp e.1 y.1 < 0) ∧ SrtK cmp l := List.pairwise_cons
theorem not_has (ho : OrdK cmp) {k : κ} {l : List (κ × Val)} (h : ∀ y ∈ l, cmp k y.1 < 0) : ¬ HasK l k := fun ⟨e, he, e2⟩ => ho.irr k (by have := h e he; rwa [e2] at this)
theorem mem_look (ho : OrdK cmp) {l : List (κ × Val)} (hs : SrtK cmp l) {e : κ × Val} (h : e ∈ l) : look l e.1 = some e.2 := by
  induction l with
  | nil => cases h
  | cons x l ih =>
    have hs' := srt_cons.1 hs
    rw [look]
    rcases List.mem_cons.1 h with rfl | h
    · rw [if_pos rfl]
    · rw [if_neg]
      · exact ih hs'.2 h
      · intro e2
        have := hs'.1 e h
        rw [e2] at this
        exact ho.irr _ this
def fillE (f : Val → Val → Val) (e : Ent κ) : Val := match e.2.2 with | none => e.2.1 | some w => f e.2.1 w
def mergeG (cmp : κ → κ → Int) (f : Val → Val → Val) (a b : List (κ × Val)) : List (κ × Val) := (mergeE cmp a b).map fun e => (e.1, fillE f e)
def comb (f : Val → Val → Val) : Option Val → Option Val → Option Val
  | none, y => y
  | x, none => x
  | some x, some y => some (f x y)
theorem comb_none (f : Val → Val → Val) (x : Option Val) : comb f x none = x := by cases x <;> rfl
theorem merge_has {f : Val → Val → Val} (ho : OrdK cmp) (a b : List (κ × Val)) (k : κ) : HasK (mergeG cmp f a b) k ↔ HasK a k ∨ HasK b k := by
  unfold HasK mergeG
  simp only [List.mem_map]
  constructor
  · rintro ⟨e, ⟨x, hx, rfl⟩, rfl⟩
    rcases (mergeE_mem cmp a b x hx).1 with h | h
    · exact .inl ⟨_, h, rfl⟩
    · exact .inr ⟨_, h, rfl⟩
  · intro h
    suffices hs : ∃ x ∈ mergeE cmp a b, x.1 = k by
      obtain ⟨x, hx, e⟩ := hs
      exact ⟨_, ⟨x, hx, rfl⟩, e⟩
    revert h
    induction a, b using mergeE.induct cmp with
    | case1 => rintro (⟨e, he, _⟩ | ⟨e, he, _⟩) <;> cases he
    | case2 x a ih =>
      rw [mergeE]
      rintro (⟨e, he, rfl⟩ | ⟨e, he, _⟩)
      · rcases List.mem_cons.1 he with rfl | he
        · exact ⟨_, .head _, rfl⟩
        · obtain ⟨z, hz, e2⟩ := ih (.inl ⟨e, he, rfl⟩)
          exact ⟨z, .tail _ hz, e2⟩
      · cases he
    | case3 y b ih =>
      rw [mergeE]
      rintro (⟨e, he, _⟩ | ⟨e, he, rfl⟩)
      · cases he
      · rcases List.mem_cons.1 he with rfl | he
        · exact ⟨_, .head _, rfl⟩
        · obtain ⟨z, hz, e2⟩ := ih (.inr ⟨e, he, rfl⟩)
          exact ⟨z, .tail _ hz, e2⟩
    | case4 x a y b hlt ih =>
      rw [mergeE, if_pos hlt]
      rintro (⟨e, he, rfl⟩ | h)
      · rcases List.mem_cons.1 he with rfl | he
        · exact ⟨_, .head _, rfl⟩
        · obtain ⟨z, hz, e2⟩ := ih (.inl ⟨e, he, rfl⟩)
          exact ⟨z, .tail _ hz, e2⟩
      · obtain ⟨z, hz, e2⟩ := ih (.inr h)
        exact ⟨z, .tail _ hz, e2⟩
    | case5 x a y b hlt hgt ih =>
      rw [mergeE, if_neg hlt, if_pos hgt]
      rintro (h | ⟨e, he, rfl⟩)
      · obtain ⟨z, hz, e2⟩ := ih (.inl h)
        exact ⟨z, .tail _ hz, e2⟩
      · rcases List.mem_cons.1 he with rfl | he
        · exact ⟨_, .head _, rfl⟩
        · obtain ⟨z, hz, e2⟩ := ih (.inr ⟨e, he, rfl⟩)
          exact ⟨z, .tail _ hz, e2⟩
    | case6 x a y b hlt hgt ih =>
      have exy := ho.tot _ _ hlt hgt
      rw [mergeE, if_neg hlt, if_neg hgt]
      rintro (⟨e, he, rfl⟩ | ⟨e, he, rfl⟩)
      · rcases List.mem_cons.1 he with rfl | he
        · exact ⟨_, .head _, rfl⟩
        · obtain ⟨z, hz, e2⟩ := ih (.inl ⟨e, he, rfl⟩)
          exact ⟨z, .tail _ hz, e2⟩
      · rcases List.mem_cons.1 he with rfl | he
        · exact ⟨_, .head _, exy⟩
        · obtain ⟨z, hz, e2⟩ := ih (.inr ⟨e, he, rfl⟩)
          exact ⟨z, .tail _ hz, e2⟩
theorem look_merge (ho : OrdK cmp) (f : Val → Val → Val) : ∀ a b : List (κ × Val), SrtK cmp a → SrtK cmp b → ∀ k, look (mergeG cmp f a b) k = comb f (look a k) (look b k) := by
  intro a b
  induction a, b using mergeE.induct cmp with
  | case1 => intro _ _ k; simp [mergeG, mergeE, look, comb]
  | case2 x a ih =>
    intro ha hb k
    have ha' := srt_cons.1 ha
    have : mergeG cmp f (x :: a) [] = (x.1, x.2) :: mergeG cmp f a [] := by unfold mergeG; rw [mergeE]; rfl
    rw [this, look_cons, look_cons, ih ha'.2 hb]
    rw [show look ([] : List (κ × Val)) k = none from rfl, comb_none, comb_none]
  | case3 y b ih =>
    intro ha hb k
    have hb' := srt_cons.1 hb
    have : mergeG cmp f [] (y :: b) = (y.1, y.2) :: mergeG cmp f [] b := by unfold mergeG; rw [mergeE]; rfl
    rw [this, look_cons, ih ha hb'.2]
    rw [show look ([] : List (κ × Val)) k = none from rfl, look_cons]
    rfl
  | case4 x a y b hlt ih =>
    intro ha hb k
    have ha' := srt_cons.1 ha
    have hb' := srt_cons.1 hb
    have : mergeG cmp f (x :: a) (y :: b) = (x.1, x.2) :: mergeG cmp f a (y :: b) := by unfold mergeG; rw [mergeE, if_pos hlt]; rfl
    rw [this, look_cons, ih ha'.2 hb]
    by_cases hk : x.1 = k
    · subst hk
      rw [if_pos rfl, mem_look ho ha (.head _), look_none (not_has ho (k := x.1) (l := y :: b) fun z hz => ?_)]
      · rfl
      · rcases List.mem_cons.1 hz with rfl | hz
        · exact hlt
        · exact ho.tr _ _ _ hlt (hb'.1 z hz)
    · rw [if_neg hk]
      congr 1
      rw [look_cons, if_neg hk]
  | case5 x a y b hlt hgt ih =>
    intro ha hb k
    have ha' := srt_cons.1 ha
    have hb' := srt_cons.1 hb
    have : mergeG cmp f (x :: a) (y :: b) = (y.1, y.2) :: mergeG cmp f (x :: a) b := by unfold mergeG; rw [mergeE, if_neg hlt, if_pos hgt]; rfl
    rw [this, look_cons, ih ha hb'.2]
    by_cases hk : y.1 = k
    · subst hk
      rw [if_pos rfl, mem_look ho hb (.head _), look_none (not_has ho (k := y.1) (l := x :: a) fun z hz => ?_)]
      · rfl
      · rcases List.mem_cons.1 hz with rfl | hz
        · exact hgt
        · exact ho.tr _ _ _ hgt (ha'.1 z hz)
    · rw [if_neg hk]
      congr 1
      conv => rhs; rw [look_cons, if_neg hk]
  | case6 x a y b hlt hgt ih =>
    intro ha hb k
    have ha' := srt_cons.1 ha
    have hb' := srt_cons.1 hb
    have exy := ho.tot _ _ hlt hgt
    have : mergeG cmp f (x :: a) (y :: b) = (x.1, f x.2 y.2) :: mergeG cmp f a b := by unfold mergeG; rw [mergeE, if_neg hlt, if_neg hgt]; rfl
    rw [this, look_cons, ih ha'.2 hb'.2]
    by_cases hk : x.1 = k
    · subst hk
      rw [if_pos rfl, mem_look ho ha (.head _), exy, mem_look ho hb (.head _)]
      rfl
    · rw [if_neg hk]
      conv => rhs; rw [look_cons, if_neg hk, look_cons, if_neg (exy ▸ hk)]
structure SemiL (P : Val → Prop) (f : Val → Val → Val) : Prop where
  cl : ∀ x y, P x → P y → P (f x y)
  comm : ∀ x y, P x → P y → f x y = f y x
  assoc : ∀ x y z, P x → P y → P z → f (f x y) z = f x (f y z)
  idem : ∀ x, P x → f x x = x
variable {blw : κ → κ → Prop}
def Dead (blw : κ → κ → Prop) (K : κ → Prop) (k : κ) : Prop := ∃ o, K o ∧ blw k o
open Classical in
noncomputable def topG (cmp : κ → κ → Int) (blw : κ → κ → Prop) (f : Val → Val → Val) (a b : List (κ × Val)) : List (κ × Val) := (mergeG cmp f a b).filter fun e => decide (¬ Dead blw (HasK (mergeG cmp f a b)) e.1)
theorem look_filter (q : κ → Bool) : ∀ (l : List (κ × Val)) (k : κ), look (l.filter fun e => q e.1) k = if q k = true then look l k else none
  | [], k => by simp [look]
  | e :: l, k => by
    by_cases hp : q e.1 = true
    · rw [List.filter_cons_of_pos (p := fun e : κ × Val => q e.1) hp, look_cons, look_filter q l k, look_cons]
      by_cases hk : e.1 = k
      · subst hk; simp [hp]
      · simp [hk]
    · rw [List.filter_cons_of_neg (p := fun e : κ × Val => q e.1) hp, look_filter q l k, look_cons]
      by_cases hk : e.1 = k
      · subst hk; simp [hp]
      · simp [hk]
def Or2 (a b : List (κ × Val)) (k : κ) : Prop := HasK a k ∨ HasK b k
open Classical in
theorem look_top (ho : OrdK cmp) {f : Val → Val → Val} {a b : List (κ × Val)} (ha : SrtK cmp a) (hb : SrtK cmp b) (k : κ) : look (topG cmp blw f a b) k = if Dead blw (Or2 a b) k then none else comb f (look a k) (look b k) := by
  unfold topG
  rw [look_filter (fun k => decide (¬ Dead blw (HasK (mergeG cmp f a b)) k)), look_merge ho f a b ha hb]
  have : Dead blw (HasK (mergeG cmp f a b)) k ↔ Dead blw (Or2 a b) k := by
    unfold Dead Or2
    simp only [merge_has ho]
  by_cases h : Dead blw (Or2 a b) k
  · rw [if_pos h, if_neg (by simpa using this.2 h)]
  · rw [if_neg h, if_pos (by simpa using fun h2 => h (this.1 h2))]
end
end Go.Proofs.YtnfcnpdpfgcchaaGreat
end
section
set_option linter.unusedVariables false
set_option linter.unusedSimpArgs false
set_option maxRecDepth 20000
namespace Go.Proofs.YtnfcnpdpfgcchaaGreat
open Go Go.MV
structure SemiB (P : Val → Prop) (f : Val → Val → Val) (b : Val) : Prop extends SemiL P f where
  bot : P b
  neut : ∀ x, P x → f x b = x
theorem bot_mk (k : Int) (ins : List Sch) : bottomF (.mk k ins) = if k = 5 then .mk 0 0 [] [] (bottomL ins) else noV := by rw [bottomF]
section
variable {p : Val → Prop} {f : Val → Val → Val} {b : Val} (h : SemiB p f b)
include h
end
end Go.Proofs.YtnfcnpdpfgcchaaGreat
end
section
set_option linter.unusedVariables false
set_option linter.unusedSimpArgs false
set_option maxRecDepth 20000
namespace Go.Proofs.YtnfcnpdpfgcchaaGreat
open Go Go.MV
theorem row_iff {s : List Bs} : isRowF s = true ↔ s.length ≤ 40 ∧ Up s ∧ ∀ x ∈ s, x.length ≤ 16 := by
  unfold isRowF shortF
  rw [Bool.and_eq_true, Bool.and_eq_true, decide_eq_true_eq, rises_up, List.all_eq_true]
  simp only [decide_eq_true_eq, and_assoc]
theorem bot_eq {d : Nat} {t : Sch} (h : isF d t = true) (hd : d ≤ 16) : BottomF t = bottomF t := by
  unfold BottomF
  rw [if_pos (isF_le hd h)]
section
variable {P : Val → Prop} {f : Val → Val → Val} {b : Val} (h : SemiB P f b)
include h
end
end Go.Proofs.YtnfcnpdpfgcchaaGreat
end
section
set_option linter.unusedVariables false
set_option linter.unusedSimpArgs false
namespace Go.MV
open Go Go.RowKit
theorem rd_cut3 {g : Gh} {w : World} {tok : Option Nat} {sz : Nat} {xs : List MV} {v : Value} (h : Rd g w (.lst tok sz xs) v) {l h' : Nat} (hl : l ≤ h') (hh : h' ≤ xs.length) :
    ∃ a c, v = .slice a xs.length c ∧ xs.length ≤ c ∧ Rd g w (.lst none sz ((xs.drop l).take (h' - l))) (.slice (if h' = l then a else a.map (·.add (l * sz))) (h' - l) (h' - l)) := by
  obtain ⟨a, c, us, rfl, h1, h2, h3, h4, h5, h6⟩ := h.inv_lst
  refine ⟨a, c, rfl, h1, ?_⟩
  have hmem : ∀ x ∈ (xs.drop l).take (h' - l), x.cells.length = sz := fun x hx => h3 x (List.mem_of_mem_drop (List.mem_of_mem_take hx))
  have hflat : flat ((xs.drop l).take (h' - l)) = ((flat xs).drop (l * sz)).take ((h' - l) * sz) := by
    rw [flat_take _ _ (fun x hx => h3 x (List.mem_of_mem_drop hx)), flat_drop _ _ h3]
  refine .lst' (by simp; omega) (by omega) (by omega) hmem (us := (us.drop (l * sz)).take ((h' - l) * sz)) ?_ (fun j u hu => ?_) (fun t ht => by cases ht)
  · rw [hflat]
    exact (h4.drop _).take _
  · rw [List.getElem?_take] at hu
    split at hu
    · rename_i hj
      rw [List.getElem?_drop] at hu
      obtain ⟨ad, ha, hs⟩ := h5 _ _ hu
      subst ha
      have hcl : h' ≠ l := fun e => by
        have : h' - l = 0 := by omega
        rw [this] at hj
        omega
      refine ⟨ad.add (l * sz), by rw [if_neg hcl]; rfl, ?_⟩
      unfold Stab at hs ⊢
      rw [add_add]
      exact hs
    · cases hu
section
variable {P : Program} {rd : Option Nat} {o : Oper} {env : Env} {σ : MS} {K : MV → MS → Prop}
theorem op_slice3 {t e : TypeId} {x lo hi mx : Operand} {tok : Option Nat} {sz l h' : Nat} {xs : List MV} {k1 k2 k3 : IntKind} {n1 n2 n3 : Int} (ho : o.op = .slice t x (some lo) (some hi) (some mx)) (hu : P.underlying t = some (.slice e)) (hs : szOf P e = some sz) (hx : evo env x = some (.lst tok sz xs))
    (hlo : evo env lo = some (.int k1 n1)) (hhi : evo env hi = some (.int k2 n2)) (hmx : evo env mx = some (.int k3 n3)) (e1 : n1 = (l : Int)) (e2 : n2 = (h' : Int)) (e3 : n3 = (h' : Int)) (hl : l ≤ h') (hh : h' ≤ xs.length) (h : K (.lst none sz ((xs.drop l).take (h' - l))) σ) : OpWp P rd o env σ K := by
  subst e1 e2 e3
  refine OpWp.of_run (by simp [ho]) fun g w a hr hop => ?_
  obtain ⟨ad, c, hv, hc, hrd⟩ := rd_cut3 (hop x (by simp [ho, Op.operands]) _ hx) hl hh
  refine ⟨_, w, ?_, .same h hr hrd⟩
  have f1 : a.eval lo = .int k1 (l : Int) := (hop lo (by simp [ho, Op.operands]) _ hlo).inv_int
  have f2 : a.eval hi = .int k2 (h' : Int) := (hop hi (by simp [ho, Op.operands]) _ hhi).inv_int
  have f3 : a.eval mx = .int k3 (h' : Int) := (hop mx (by simp [ho, Op.operands]) _ hmx).inv_int
  have hhc : h' ≤ c := by omega
  simp [execOp, ho, Instr.sliceAt, Instr.slice, run_underlying hu, hv, Instr.sliceBounds, Instr.sliceBound, asIntOf, f1, f2, f3, hhc, hl, szOf_run hs]
end
def Sees (F : List (Nat × MObj)) (σ : MS) : Prop := ∀ p ∈ F, σ[p.1]? = some p.2
theorem Sees.app {F : List (Nat × MObj)} {A B : MS} (h : Sees F A) : Sees F (A ++ B) := fun p hp => get_app (h p hp)
theorem Sees.cons {F : List (Nat × MObj)} {A : MS} {i : Nat} {o : MObj} (h1 : A[i]? = some o) (h : Sees F A) : Sees ((i, o) :: F) A := fun p hp => by
  rcases List.mem_cons.1 hp with rfl | hp
  · exact h1
  · exact h p hp
theorem Sees.nil {A : MS} : Sees [] A := fun p hp => by cases hp
theorem ClS.app {A B : MS} (h : ClS A) (hB : ∀ o ∈ B, o.cl (A ++ B).length) : ClS (A ++ B) := by
  intro id o hid
  by_cases c : id < A.length
  · rw [List.getElem?_append_left c] at hid
    have := h id o hid
    cases o with
    | cells l => exact fun x hx => (this x hx).mono (by simp)
    | loop s p ls => exact fun t x hx => (this t x hx).mono (by simp)
    | row _ _ _ => exact trivial
    | mp es => exact fun e he => (this e he).mono (by simp)
    | pin _ _ => exact trivial
    | tcells _ l => exact fun x hx => (this x hx).mono (by simp)
    | orow _ _ _ l => exact fun x hx => (this x hx).mono (by simp)
    | fixed _ _ => exact trivial
    | gone => exact trivial
  · rw [List.getElem?_append_right (by omega)] at hid
    exact hB o (List.mem_of_getElem? hid)
theorem ClS.swap {A A' B : MS} (hl : A'.length = A.length) (h : ClS (A ++ B)) (h' : ClS A') : ClS (A' ++ B) := by
  refine h'.app fun o ho => ?_
  obtain ⟨i, hi⟩ := List.getElem?_of_mem ho
  have := h (A.length + i) o (by rw [getElem?_own]; exact hi)
  rwa [show (A' ++ B).length = (A ++ B).length by simp [hl]]
theorem YStep.frame {P : Program} {id : Nat} {xs : List MV} {S S' : MS} {b : Bool} (h : YStep P id xs S b S') (J : MS) : YStep P id xs (S ++ J) b (S' ++ J) := by
  intro L rd o env f args ts ho hf hx
  have := h (J ++ L) rd o env f args ts ho hf hx
  rwa [← List.append_assoc, ← List.append_assoc] at this
def GiveOk (P : Program) (f : FuncId) (args : Nat → List MV) (res : Bool → MV) (ys : List (List MV)) (ok : MS → Prop) : Prop :=
  ∀ (id : Nat) (T : Nat → MS) (m : Nat), (∀ j, ok (T j)) → m ≤ ys.length → (∀ j y, j < m → ys[j]? = some y → YStep P id y (T j) true (T (j + 1))) → (∀ j y, j = m → ys[j]? = some y → YStep P id y (T j) false (T (j + 1))) →
    MCalls P f (args id) (T 0) fun v σ' => v = res (decide (m = ys.length)) ∧ σ' = T (if m < ys.length then m + 1 else m)
theorem GiveOk.iter {P : Program} {k : FuncId} {first caps : List MV} {ys : List (List MV)} {ok : MS → Prop} (h : GiveOk P k (fun id => first ++ [.yld id] ++ caps) (fun _ => .tup []) ys ok) : IterOk P k first caps ys ok :=
  iterOk_of fun id T m hok hm hyt hyf => h id T m hok hm hyt hyf
theorem IterOk.two {P : Program} {k : FuncId} {first caps : List MV} {ys : List (List MV)} {ok : MS → Prop} (h : IterOk P k first caps ys ok) : IterOk2 P k first caps ys ok (fun _ σ τ => σ = τ) := by
  intro id T U m hok hu hyt
  have hyt' : ∀ j y, j < m → ys[j]? = some y → YStep P id y (T j) true (T (j + 1)) := fun j y hj hy => by
    rw [hu j (by omega)]; exact hyt j y hj hy
  refine ⟨fun hm => (h id T m hok hyt').1 hm, fun y hy hyf => (h id T m hok hyt').2 y hy (by rw [hu m (Nat.le_refl _)]; exact hyf)⟩
theorem GiveOk.use {P : Program} {f : FuncId} {args : Nat → List MV} {res : Bool → MV} {ys zs : List (List MV)} {ok : MS → Prop} (h : GiveOk P f args res ys ok) {id a M : Nat} {T : Nat → MS} {J : MS} (hok : ∀ j, ok (T j ++ J)) (hz : ∀ j y, ys[j]? = some y → zs[a + j]? = some y)
    (hyt : ∀ j y, j < M → zs[j]? = some y → YStep P id y (T j) true (T (j + 1))) (hyf : ∀ j y, j = M → zs[j]? = some y → YStep P id y (T j) false (T (j + 1))) (ha : a ≤ M) :
    MCalls P f (args id) (T a ++ J) fun v σ' => v = res (decide (a + ys.length ≤ M)) ∧ σ' = T (if a + ys.length ≤ M then a + ys.length else M + 1) ++ J := by
  have key := h id (fun j => T (a + j) ++ J) (min (M - a) ys.length) (fun j => hok _) (Nat.min_le_right _ _)
    (fun j y hj hy => (hyt (a + j) y (by omega) (hz j y hy)).frame J) (fun j y hj hy => by
      have hl := (List.getElem?_eq_some_iff.1 hy).1
      exact (hyf (a + j) y (by omega) (hz j y hy)).frame J)
  refine key.mono ?_
  rintro v σ' ⟨rfl, rfl⟩
  by_cases hc : a + ys.length ≤ M
  · rw [if_pos hc, decide_eq_true hc, decide_eq_true (by omega), if_neg (by omega)]
    exact ⟨rfl, by rw [show min (M - a) ys.length = ys.length by omega]⟩
  · rw [if_neg hc, decide_eq_false hc, decide_eq_false (by omega), if_pos (by omega)]
    exact ⟨rfl, by rw [show a + (min (M - a) ys.length + 1) = M + 1 by omega]⟩
end Go.MV
end
section
set_option linter.unusedVariables false
set_option linter.unusedSimpArgs false
set_option maxRecDepth 20000
set_option maxHeartbeats 400000
namespace Go.Proofs.YtnfcnpdpfgcchaaGreat
open Go Go.MV
def nS : Sch := .mk 0 []
def leavesF (k : Int) : Val → List Val
  | .mk n m s c w => if k = 3 then s.map fun t => .mk 0 0 [t] [] [] else [.mk n m s c w]
noncomputable def innerF (b : Val) (f : Val → List Val) (x : Val) : List Val := if b = x then [x] else f x
noncomputable def partAt (f : Sch → Val → List Val) (k : Int) (ins : List Sch) (s : List Bs) (c : List (List Tk)) (w : List Val) (i : Nat) : List Val :=
  if k = 4 then (f (ins.getD 0 nS) (w.getD i noV)).map fun p => .mk 0 0 [s.getD i []] [] [p]
  else if k = 5 then (f (ins.getD i nS) (w.getD i noV)).map fun p => .mk 0 0 [] [] ((bottomL ins).set i p)
  else (innerF (bottomF (ins.getD 0 nS)) (f (ins.getD 0 nS)) (w.getD i noV)).map fun p => .mk 0 0 [] [c.getD i []] [p]
noncomputable def partsD : Nat → Sch → Val → List Val
  | 0, _, _ => []
  | d + 1, .mk k ins, .mk n m s c w => if bottomF (.mk k ins) = .mk n m s c w then [] else
      if w = [] then leavesF k (.mk n m s c w) else (List.range w.length).flatMap (partAt (partsD d) k ins s c w)
def noK7 : Nat → Sch → Bool
  | 0, _ => true
  | d + 1, .mk k ins => k != 7 && ins.all (noK7 d)
theorem fm_len {α : Type} (F : Nat → List α) (i : Nat) : ((List.range (i + 1)).flatMap F).length = ((List.range i).flatMap F).length + (F i).length := by
  rw [List.range_succ, List.flatMap_append, List.length_append]; simp
theorem fm_get {α : Type} (F : Nat → List α) {i j : Nat} {y : α} : ∀ {n : Nat}, i < n → (F i)[j]? = some y → ((List.range n).flatMap F)[((List.range i).flatMap F).length + j]? = some y
  | 0, hi, _ => by omega
  | n + 1, hi, h => by
    rw [List.range_succ, List.flatMap_append]
    rcases Nat.lt_or_ge i n with hlt | hge
    · have := fm_get F hlt h
      rw [List.getElem?_append_left (List.getElem?_eq_some_iff.1 this).1]
      exact this
    · have : i = n := by omega
      subst this
      rw [List.getElem?_append_right (by omega)]
      simpa using h
theorem parts_none {d : Nat} {k : Int} {ins : List Sch} {n m : Int} {s : List Bs} {c : List (List Tk)} {w : List Val} (h : bottomF (.mk k ins) = .mk n m s c w) : partsD (d + 1) (.mk k ins) (.mk n m s c w) = [] := by rw [partsD, if_pos h]
theorem parts_leaf {d : Nat} {k : Int} {ins : List Sch} {n m : Int} {s : List Bs} {c : List (List Tk)} (h : ¬ bottomF (.mk k ins) = .mk n m s c []) : partsD (d + 1) (.mk k ins) (.mk n m s c []) = leavesF k (.mk n m s c []) := by rw [partsD, if_neg h, if_pos rfl]
theorem parts_in {d : Nat} {k : Int} {ins : List Sch} {n m : Int} {s : List Bs} {c : List (List Tk)} {w : List Val} (h : ¬ bottomF (.mk k ins) = .mk n m s c w) (hw : w ≠ []) : partsD (d + 1) (.mk k ins) (.mk n m s c w) = (List.range w.length).flatMap (partAt (partsD d) k ins s c w) := by rw [partsD, if_neg h, if_neg hw]
theorem okV_setAt {l : List Val} {i : Nat} {p : Val} (hl : ∀ x ∈ l, okV x) (hp : okV p) : ∀ x ∈ l.set i p, okV x := fun x hx => by
  rcases List.mem_or_eq_of_mem_set hx with h | rfl
  · exact hl x h
  · exact hp
noncomputable def leqB (s : Sch) (a p : Val) : Bool := match leqVF s p a with | .ok l => l | .error _ => true
noncomputable def diffVF (s : Sch) (a b : Val) : Except Int Val := match leqVF s a b with
  | .error e => .error e
  | .ok _ => AllF s ((partsD 16 s b).filter fun p => !leqB s a p)
end Go.Proofs.YtnfcnpdpfgcchaaGreat
end
section
set_option linter.unusedVariables false
set_option linter.unusedSimpArgs false
namespace Go.MV
open Go Go.RowKit
def OkD (ops : Array Oper) (i : Nat) (o : Oper) (D : Nat → Bool) : Prop := D i = false ∧ (∀ e, bindsOn o e = true → D e = true) ∧ ∀ (j : Nat) (p : Oper), ops[j]? = some p → D j = true → ∀ e, bindsOn p e = true → D e = true
def updD (D : Nat → Bool) (i : Nat) : Nat → Bool := fun j => if j = i then true else D j
def dOpsS (P : Program) (rd : Option Nat) (ops : Array Oper) (st : (Nat → Bool) → MS) (Q : Env → Prop) : List Oper → Nat → Env → Prop
  | [], _, env => Q env
  | o :: rest, i, env =>
    match guardOk ops env o with
    | some true => ∃ x, (∀ D, OkD ops i o D → OpWp P rd o env (st D) fun x' σ' => x' = x ∧ σ' = st (updD D i)) ∧ dOpsS P rd ops st Q rest (i + 1) (putd o.dst x env)
    | some false => (∀ D, st (updD D i) = st D) ∧ dOpsS P rd ops st Q rest (i + 1) (putd o.dst (.tup []) env)
    | none => False
section
variable {P : Program} {rd : Option Nat} {N n : Nat} {ops : Array Oper} {env : Env} {σ : MS} {st : (Nat → Bool) → MS}
theorem dOpsS_op {Q : Env → Prop} {o : Oper} {rest : List Oper} {i : Nat} {x : MV} (hg : guardOk ops env o = some true) (h : ∀ D, OkD ops i o D → OpWp P rd o env (st D) fun x' σ' => x' = x ∧ σ' = st (updD D i)) (hr : dOpsS P rd ops st Q rest (i + 1) (putd o.dst x env)) : dOpsS P rd ops st Q (o :: rest) i env := by
  simp only [dOpsS, hg]; exact ⟨x, h, hr⟩
theorem dOpsS_nil {Q : Env → Prop} {i : Nat} (h : Q env) : dOpsS P rd ops st Q [] i env := h
structure RowS (P : Program) (rd : Option Nat) (ops : Array Oper) (st : (Nat → Bool) → MS) (E : Nat → Env) (X : Nat → MV) (B : Nat → Bool) (from_ n : Nat) : Prop where
  step : ∀ (i : Nat) (o : Oper), from_ ≤ i → ops[i]? = some o → guardOk ops (E i) o = some (B i) ∧
    (B i = true → ∀ D, OkD ops i o D → OpWp P rd o (E i) (st D) fun x' σ' => x' = X i ∧ σ' = st (updD D i)) ∧
    (B i = false → (∀ D, st (updD D i) = st D) ∧ X i = .tup []) ∧ E (i + 1) = putd o.dst (X i) (E i)
theorem dOpsS_row {Q : Env → Prop} : ∀ (l : List Oper) (k : Nat) (env : Env), (∀ j, l[j]? = ops[k + j]?) → dOpsS P rd ops st Q l k env → ∃ E X B, RowS P rd ops st E X B k ops.size ∧ E k = env ∧ Q (E (k + l.length))
  | [], k, env, hl, h => ⟨fun _ => env, fun _ => .tup [], fun _ => false, ⟨fun i o hi ho => by
      have := hl (i - k)
      rw [show k + (i - k) = i by omega, ho] at this
      cases this⟩, rfl, h⟩
  | o :: l, k, env, hl, h => by
    have ho : ops[k]? = some o := by simpa using (hl 0).symm
    have hl' : ∀ j, l[j]? = ops[k + 1 + j]? := fun j => by
      have := hl (j + 1)
      rw [List.getElem?_cons_succ] at this
      rw [this, show k + (j + 1) = k + 1 + j by omega]
    simp only [dOpsS] at h
    have build : ∀ (x : MV) (b : Bool), guardOk ops env o = some b → (b = true → ∀ D, OkD ops k o D → OpWp P rd o env (st D) fun x' σ' => x' = x ∧ σ' = st (updD D k)) →
        (b = false → (∀ D, st (updD D k) = st D) ∧ x = .tup []) → dOpsS P rd ops st Q l (k + 1) (putd o.dst x env) →
        ∃ E X B, RowS P rd ops st E X B k ops.size ∧ E k = env ∧ Q (E (k + (o :: l).length)) := by
      intro x b hg hx hx' hr
      obtain ⟨E, X, B, hrow, hE, hQ⟩ := dOpsS_row l (k + 1) _ hl' hr
      refine ⟨fun i => if i = k then env else E i, fun i => if i = k then x else X i, fun i => if i = k then b else B i, ⟨fun i p hi hp => ?_⟩, by simp, ?_⟩
      · by_cases e : i = k
        · subst e
          rw [ho] at hp
          injection hp with hp
          subst hp
          simp only [if_true]
          refine ⟨hg, hx, hx', ?_⟩
          rw [if_neg (by omega)]
          exact hE
        · simp only [if_neg e]
          rw [if_neg (by omega)]
          exact hrow.step i p (by omega) hp
      · show Q (if k + (o :: l).length = k then env else E (k + (o :: l).length))
        rw [if_neg (by rw [List.length_cons]; omega)]
        rw [List.length_cons, show k + (l.length + 1) = k + 1 + l.length by omega]
        exact hQ
    split at h
    · rename_i hg
      obtain ⟨x, hx, hr⟩ := h
      exact build x true hg (fun _ => hx) (fun h => by cases h) hr
    · rename_i hg
      exact build _ false hg (fun h => by cases h) (fun _ => ⟨h.1, rfl⟩) h.2
    · exact h.elim
theorem rowS_get {E : Nat → Env} {X : Nat → MV} {B : Nat → Bool} (hx : LexS n ops) (hrow : RowS P rd ops st E X B 0 ops.size) : ∀ (i : Nat), i ≤ ops.size → ∀ t,
    (∀ (j : Nat) (p : Oper), j < i → ops[j]? = some p → p.dst = some t → get (E i) t = some (X j)) ∧ ((∀ (j : Nat) (p : Oper), j < i → ops[j]? = some p → p.dst ≠ some t) → get (E i) t = get (E 0) t)
  | 0, _, t => ⟨fun j p hj => by omega, fun _ => rfl⟩
  | i + 1, hi, t => by
    obtain ⟨h1, h2⟩ := rowS_get hx hrow i (by omega) t
    have ho : ops[i]? = some ops[i] := Array.getElem?_eq_getElem (by omega)
    obtain ⟨_, _, _, hE⟩ := hrow.step i _ (Nat.zero_le _) ho
    rw [hE]
    refine ⟨fun j p hj hp hd => ?_, fun hno => ?_⟩
    · by_cases e : j = i
      · subst e
        rw [ho] at hp
        injection hp with hp
        subst hp
        rw [hd]
        exact get_cons_self _ _ _
      · have hne : ops[i].dst ≠ some t := fun hd' => e (hx.inj j i p _ t hp ho hd hd')
        cases hdo : ops[i].dst with
        | none => exact h1 j p (by omega) hp hd
        | some d =>
          rw [hdo] at hne
          show get ((d, X i) :: E i) t = _
          rw [get_cons_ne _ _ (fun e => hne (by rw [e]))]
          exact h1 j p (by omega) hp hd
    · have hne := hno i _ (by omega) ho
      have hold := h2 fun j p hj => hno j p (by omega)
      cases hdo : ops[i].dst with
      | none => exact hold
      | some d =>
        rw [hdo] at hne
        show get ((d, X i) :: E i) t = _
        rw [get_cons_ne _ _ (fun e => hne (by rw [e]))]
        exact hold
structure DInvS (P : Program) (rd : Option Nat) (N n m0 : Nat) (ops : Array Oper) (st : (Nat → Bool) → MS) (E : Nat → Env) (X : Nat → MV) (g0 : Gh) (w0 : World) (F : Fence) (listed : Array Bool) (a : Act) (w : World) (g : Gh) : Prop where
  fok : FOkN N g rd F
  rel : Rel g (st fun j => listed.getD j false) w
  le : LeN N g0 w0 g w
  sz : a.tmps.size = n
  marks : Marks m0 w a.defers
  old : ∀ t x, get (E 0) t = some x → (∀ (j : Nat) (p : Oper), ops[j]? = some p → p.dst = some t → listed.getD j true = false) → ∃ v, a.tmps[t]? = some v ∧ Rd g w x v
  new : ∀ (j : Nat) (p : Oper) (d : Nat), listed.getD j false = true → ops[j]? = some p → p.dst = some d → ∃ v, a.tmps[d]? = some v ∧ Rd g w (X j) v
  lsz : listed.size = ops.size
theorem DInvS.reads {m0 : Nat} {E : Nat → Env} {X : Nat → MV} {B : Nat → Bool} {g0 : Gh} {w0 : World} {F : Fence} {listed : Array Bool} {a : Act} {w : World} {g : Gh} (hx : LexS n ops) (hrow : RowS P rd ops st E X B 0 ops.size) (hI : DInvS P rd N n m0 ops st E X g0 w0 F listed a w g)
    {i : Nat} {o : Oper} (hi : ops[i]? = some o) (hnl : listed.getD i true = false) (hdep : ∀ e ∈ o.after, Region.binds .any e = true → listed.getD e.on false = true)
    (hcl : ∀ (j : Nat) (p : Oper), ops[j]? = some p → listed.getD j false = true → ∀ e ∈ p.after, Region.binds .any e = true → listed.getD e.on false = true) {t : Nat} (ht : t ∈ readsOf ops o) {x : MV} (hg : get (E i) t = some x) : ∃ v, a.tmps[t]? = some v ∧ Rd g w x v := by
  have hlt : i < ops.size := (Array.getElem?_eq_some_iff.1 hi).1
  obtain ⟨h1, h2⟩ := rowS_get hx hrow i (by omega) t
  by_cases hex : ∃ (j : Nat) (p : Oper), j < i ∧ ops[j]? = some p ∧ p.dst = some t
  · obtain ⟨j, p, hji, hp, hd⟩ := hex
    rcases hx.dep i j o p t hi hp ht hd with ⟨_, e, he, hb, hon⟩ | ⟨hij, _⟩ | hij
    · rw [h1 j p hji hp hd] at hg
      injection hg with hg
      subst hg
      exact hI.new j p t (by rw [← hon]; exact hdep e he hb) hp hd
    · omega
    · omega
  · have hno : ∀ (j : Nat) (p : Oper), j < i → ops[j]? = some p → p.dst ≠ some t := fun j p hj hp hd => hex ⟨j, p, hj, hp, hd⟩
    rw [h2 hno] at hg
    refine hI.old t x hg fun j p hp hd => ?_
    have hjs : j < ops.size := (Array.getElem?_eq_some_iff.1 hp).1
    have hji : ¬ j < i := fun hj => hno j p hj hp hd
    rcases hx.dep i j o p t hi hp ht hd with ⟨hj, _⟩ | ⟨hij, e, he, hb, hon⟩ | hij
    · omega
    · cases hl : listed.getD j true with
      | false => rfl
      | true =>
        rw [getD_ff hI.lsz hjs] at hl
        have := hcl j p hp hl e he hb
        rw [hon, ← getD_ff hI.lsz hlt, hnl] at this
        cases this
    · subst hij; exact hnl
theorem drawS_sound {m0 : Nat} {E : Nat → Env} {X : Nat → MV} {B : Nat → Bool} {g0 : Gh} {w0 : World} {F : Fence} {Q : Exit → Env → MS → Prop} (hx : LexS n ops) (hrow : RowS P rd ops st E X B 0 ops.size) (hQ : Q .normal (E ops.size) (st fun j => Nat.blt j ops.size)) :
    ∀ (fuel : Nat) (listed : Array Bool) (a : Act) (w : World) (g : Gh), DInvS P rd N n m0 ops st E X g0 w0 F listed a w g → (∀ (j : Nat) (p : Oper), ops[j]? = some p → listed.getD j false = true → ∀ e ∈ p.after, Region.binds .any e = true → listed.getD e.on false = true) →
      (List.range ops.size).countP (fun i => !listed.getD i true) ≤ fuel → wpAnyIn F 0 P .any ops (Left_ N g0 w0 n m0 Q) fuel listed a w := by
  have hend : ∀ (listed : Array Bool) (a : Act) (w : World) (g : Gh), DInvS P rd N n m0 ops st E X g0 w0 F listed a w g → (∀ i, i < ops.size → listed.getD i true = true) → Left_ N g0 w0 n m0 Q .normal a w := by
    intro listed a w g hI hall
    have hallf : ∀ i, i < ops.size → listed.getD i false = true := fun i hi => by rw [← getD_ff hI.lsz hi]; exact hall i hi
    have hs : (fun j => listed.getD j false) = fun j => Nat.blt j ops.size := by
      funext j
      rcases Nat.lt_or_ge j ops.size with h | h
      · rw [hallf j h]
        exact (by simpa using h : Nat.blt j ops.size = true).symm
      · have h2 : Nat.blt j ops.size = false := by
          cases hb : Nat.blt j ops.size with
          | false => rfl
          | true =>
            have : j < ops.size := by simpa using hb
            omega
        rw [h2]
        have := hI.lsz
        simp [Array.getD_eq_getD_getElem?, Array.getElem?_eq_none (show listed.size ≤ j by omega)]
    have hrel := hI.rel
    rw [hs] at hrel
    refine ⟨E ops.size, _, g, hQ, hrel, fun t x hg => ?_, hI.le, hI.sz, hI.marks⟩
    obtain ⟨h1, h2⟩ := rowS_get hx hrow ops.size (Nat.le_refl _) t
    by_cases hex : ∃ (j : Nat) (p : Oper), ops[j]? = some p ∧ p.dst = some t
    · obtain ⟨j, p, hp, hd⟩ := hex
      have hlt : j < ops.size := (Array.getElem?_eq_some_iff.1 hp).1
      rw [h1 j p hlt hp hd] at hg
      injection hg with hg
      subst hg
      exact hI.new j p t (hallf j hlt) hp hd
    · have hno : ∀ (j : Nat) (p : Oper), ops[j]? = some p → p.dst ≠ some t := fun j p hp hd => hex ⟨j, p, hp, hd⟩
      rw [h2 fun j p _ hp => hno j p hp] at hg
      exact hI.old t x hg fun j p hp hd => absurd hd (hno j p hp)
  have hready : ∀ (listed : Array Bool), listed.size = ops.size → Region.ready .any ops listed = [] → ∀ i, i < ops.size → listed.getD i true = true := by
    intro listed hls hnil i
    induction i using Nat.strongRecOn with
    | _ i ih =>
      intro hi
      cases hli : listed.getD i true with
      | true => rfl
      | false =>
        exfalso
        have ho : ops[i]? = some ops[i] := Array.getElem?_eq_getElem hi
        have hm : i ∈ Region.ready .any ops listed := by
          simp only [Region.ready, List.mem_filter, List.mem_range, Bool.and_eq_true]
          refine ⟨hi, by rw [hli]; rfl, ?_⟩
          rw [ho]
          simp only [Option.map_some, Option.getD_some, Array.all_eq_true_iff_forall_mem, Bool.or_eq_true, Bool.not_eq_true']
          intro e he
          cases hb : Region.binds .any e with
          | false => exact .inl rfl
          | true =>
            right
            have hlt := hx.back i _ e ho he hb
            rw [← getD_ff hls (show e.on < ops.size by omega)]
            exact ih e.on hlt (by omega)
        rw [hnil] at hm
        cases hm
  intro fuel
  induction fuel with
  | zero =>
    intro listed a w g hI hcl hc
    have hall : ∀ i, i < ops.size → listed.getD i true = true := by
      intro i hi
      have h0 : (List.range ops.size).countP (fun i => !listed.getD i true) = 0 := by omega
      rw [List.countP_eq_zero] at h0
      have := h0 i (List.mem_range.2 hi)
      simpa using this
    refine ⟨?_, hend listed a w g hI hall⟩
    simp only [Region.ready, List.filter_eq_nil_iff, List.mem_range, Bool.and_eq_true, not_and]
    intro i hi hf
    rw [hall i hi] at hf
    cases hf
  | succ fuel ih =>
    intro listed a w g hI hcl hc
    refine ⟨fun hnil => hend listed a w g hI (hready listed hI.lsz hnil), fun i hi => ?_⟩
    obtain ⟨hlt, hnl, hdep⟩ : i < ops.size ∧ listed.getD i true = false ∧ ∀ (o : Oper), ops[i]? = some o → ∀ e ∈ o.after, Region.binds .any e = true → listed.getD e.on false = true := by
      simp only [Region.ready, List.mem_filter, List.mem_range, Bool.and_eq_true, Bool.not_eq_true'] at hi
      refine ⟨hi.1, hi.2.1, fun o ho e he hb => ?_⟩
      have := hi.2.2
      rw [ho] at this
      simp only [Option.map_some, Option.getD_some, Array.all_eq_true_iff_forall_mem, Bool.or_eq_true, Bool.not_eq_true'] at this
      rcases this e he with h | h
      · rw [hb] at h; cases h
      · exact h
    have ho : ops[i]? = some ops[i] := Array.getElem?_eq_getElem hlt
    obtain ⟨hg, hT, hF, hE⟩ := hrow.step i _ (Nat.zero_le _) ho
    have hil : i < listed.size := by rw [hI.lsz]; exact hlt
    have hnlf : listed.getD i false = false := by rw [← getD_ff hI.lsz hlt]; exact hnl
    have hwant : Region.wanted ops[i] (yielded ops a.tmps) = B i := by
      refine guardOk_wanted (g := g) (w := w) hg fun j want d x hgd hjd hx' => ?_
      refine hI.reads hx hrow ho hnl (hdep _ ho) hcl ?_ hx'
      simp only [readsOf, hgd, hjd, Option.toList_some]
      simp
    have hset : ∀ j, j ≠ i → (listed.setIfInBounds i true).getD j false = listed.getD j false := fun j hj => getD_set_ne _ (fun h => hj h.symm)
    have hseti : (listed.setIfInBounds i true).getD i false = true := by simp [Array.getD_eq_getD_getElem?, Array.getElem?_setIfInBounds_self_of_lt hil]
    have hupd : (fun j => (listed.setIfInBounds i true).getD j false) = updD (fun j => listed.getD j false) i := by
      funext j
      unfold updD
      by_cases e : j = i
      · subst e; rw [if_pos rfl]; exact hseti
      · rw [if_neg e]; exact hset j e
    have next : ∀ (v : Value) (w' : World) (g' : Gh), Rel g' (st (updD (fun j => listed.getD j false) i)) w' → Rd g' w' (X i) v → Le g w g' w' →
        wpAnyIn F 0 P .any ops (Left_ N g0 w0 n m0 Q) fuel (listed.setIfInBounds i true) (a.put ops[i].dst v) w' := by
      intro v w' g' hr' hv hl
      refine ih _ _ w' g' ⟨hI.fok.mono (hl.toN N), by rw [hupd]; exact hr', hI.le.trans (hl.toN N), by rw [size_put]; exact hI.sz, by rw [defers_put]; exact hI.marks.mono hl, fun t x hgt hno => ?_, fun j p d hj hp hd => ?_, by simpa using hI.lsz⟩ (fun j p hp hj e he hb => ?_) ?_
      · have hnoi : ops[i].dst ≠ some t := fun hd => by
          have := hno i _ ho hd
          simp [Array.getD_eq_getD_getElem?, Array.getElem?_setIfInBounds_self_of_lt hil] at this
        obtain ⟨u, hu, hr⟩ := hI.old t x hgt fun j p hp hd => by
          have hji : j ≠ i := fun e => by
            subst e
            rw [ho] at hp
            injection hp with hp
            subst hp
            exact hnoi hd
          have := hno j p hp hd
          rw [getD_set_ne _ (fun h => hji h.symm)] at this
          exact this
        refine ⟨u, ?_, hr.mono hl⟩
        cases hd : ops[i].dst with
        | none => exact hu
        | some d =>
          rw [hd] at hnoi
          show (a.tmps.setIfInBounds d v)[t]? = _
          rw [Array.getElem?_setIfInBounds_ne (fun e => hnoi (by rw [e]))]
          exact hu
      · by_cases e : j = i
        · subst e
          rw [ho] at hp
          injection hp with hp
          subst hp
          refine ⟨v, ?_, hv⟩
          rw [hd]
          show (a.tmps.setIfInBounds d v)[d]? = _
          have := hx.lt j _ d ho hd
          simp [Array.getElem?_setIfInBounds_self_of_lt (show d < a.tmps.size by rw [hI.sz]; exact this)]
        · rw [hset j e] at hj
          obtain ⟨u, hu, hr⟩ := hI.new j p d hj hp hd
          refine ⟨u, ?_, hr.mono hl⟩
          cases hdi : ops[i].dst with
          | none => exact hu
          | some d' =>
            show (a.tmps.setIfInBounds d' v)[d]? = _
            rw [Array.getElem?_setIfInBounds_ne (fun ed => e (hx.inj j i p _ d hp ho hd (by rw [hdi, ed])))]
            exact hu
      · have hon : listed.getD e.on false = true := by
          by_cases ej : j = i
          · subst ej
            rw [ho] at hp
            injection hp with hp
            subst hp
            exact hdep _ ho e he hb
          · rw [hset j ej] at hj
            exact hcl j p hp hj e he hb
        exact getD_set_true hon
      · have hlt2 : (List.range ops.size).countP (fun k => !(listed.setIfInBounds i true).getD k true) < (List.range ops.size).countP (fun k => !listed.getD k true) := by
          have hsplit : ∀ (l : List Nat), i ∈ l → l.countP (fun k => !(listed.setIfInBounds i true).getD k true) < l.countP (fun k => !listed.getD k true) := by
            have hle : ∀ (l : List Nat), l.countP (fun k => !(listed.setIfInBounds i true).getD k true) ≤ l.countP (fun k => !listed.getD k true) := by
              intro l
              refine List.countP_mono_left fun k _ hk => ?_
              by_cases e : k = i
              · subst e
                simp [Array.getD_eq_getD_getElem?, Array.getElem?_setIfInBounds_self_of_lt hil] at hk
              · rw [getD_set_ne _ (fun h => e h.symm)] at hk
                exact hk
            intro l
            induction l with
            | nil => intro h; cases h
            | cons k l ihl =>
              intro hm
              rw [List.countP_cons, List.countP_cons]
              by_cases e : k = i
              · subst e
                have e1 : (!(listed.setIfInBounds k true).getD k true) = false := by simp [Array.getD_eq_getD_getElem?, Array.getElem?_setIfInBounds_self_of_lt hil]
                rw [e1, hnl]
                have := hle l
                simp only [Bool.not_false, if_true, Bool.false_eq_true, if_false]
                omega
              · have hm' : i ∈ l := by
                  rcases List.mem_cons.1 hm with h | h
                  · exact absurd h.symm e
                  · exact h
                have := ihl hm'
                rw [getD_set_ne _ (fun h => e h.symm)]
                omega
          exact hsplit _ (List.mem_range.2 hlt)
        omega
    have hopd : ∀ x ∈ ops[i].op.operands, ∀ m, evo (E i) x = some m → Rd g w m (a.eval x) := fun x hxo m hm => by
      cases x with
      | tmp t =>
        obtain ⟨v, hv, hr⟩ := hI.reads hx hrow ho hnl (hdep _ ho) hcl (t := t) (by
          simp only [readsOf, List.mem_append]
          left
          simp only [opTmps, List.mem_filterMap]
          exact ⟨.tmp t, by simpa using hxo, rfl⟩) hm
        simp only [Act.eval, Array.getD_eq_getD_getElem?, hv, Option.getD_some]
        exact hr
      | const v => exact constMV_rd _ _ hm
      | func f =>
        injection hm with hm
        subst hm
        exact .fn' (.nil _ _) (.nil _ _)
      | global _ => cases hm
    have hok : OkD ops i ops[i] (fun j => listed.getD j false) := by
      refine ⟨hnlf, fun e hb => ?_, fun j p hp hj e hb => ?_⟩
      · obtain ⟨ed, hed, hbd, hon⟩ := bindsOn_iff.1 hb
        rw [← hon]
        exact hdep _ ho ed hed hbd
      · obtain ⟨ed, hed, hbd, hon⟩ := bindsOn_iff.1 hb
        rw [← hon]
        exact hcl j p hp hj ed hed hbd
    unfold wpOpIn
    rw [ho]
    simp only
    rw [hwant]
    cases hB : B i with
    | true =>
      simp only [if_true]
      have hop := hT hB _ hok g w a F hI.fok.ok hI.rel hopd
      have h2 := Oper.wpIn_mono (K' := wpAnyIn F 0 P .any ops (Left_ N g0 w0 n m0 Q) fuel (listed.setIfInBounds i true)) ?_ hop
      · refine ⟨h2.1, ?_⟩
        have h3 := h2.2
        revert h3
        generalize (Oper.semAt F.round a.eval ops[i]).run P w = r
        intro h3
        cases r with
        | ok x w' =>
          cases x with
          | value v => exact h3
          | skip => exact h3
          | defer d => exact h3
          | enter f args =>
            refine ⟨h3.1, h3.2.mono ?_⟩
            rintro (⟨v⟩ | ⟨c⟩ | _) w'' hx
            · exact hx
            · exact hx.elim
            · obtain ⟨_, _, hx⟩ := hx; exact hx.elim
          | row r' args => exact h3
          | round l f t b c =>
            refine ⟨h3.1, h3.2.mono ?_⟩
            rintro (⟨v⟩ | ⟨c⟩ | _) w'' hx
            · exact hx
            · exact hx.elim
            · obtain ⟨_, _, hx⟩ := hx; exact hx.elim
          | _ => exact h3.elim
        | halt x w' =>
          cases x with
          | panic v => exact h3.elim
          | _ => exact h3.elim
      · rintro a' w' ⟨v, rfl, x, σ', g', ⟨rfl, rfl⟩, hr', hv, hl⟩
        exact next v w' g' hr' hv hl
    | false =>
      simp only [Bool.false_eq_true, if_false]
      obtain ⟨hne, hX⟩ := hF hB
      refine ⟨fun f _ => hI.fok.ok.fn f, next undef w g (by rw [hne]; exact hI.rel) ?_ (.refl _ _)⟩
      rw [hX]
      exact rd_undef _ _
theorem mwp_drawS {Q : Exit → Env → MS → Prop} {id : Nat} (st : (Nat → Bool) → MS) (hm : P.follows .mixedOrders = true) (hb : lexOk n ops = true) (h0 : st (fun _ => false) = σ)
    (h : dOpsS P rd ops st (fun env => Q .normal env (st fun j => Nat.blt j ops.size)) ops.toList 0 env) : mwp P rd N n (.region id ops true) Q env σ := by
  intro g w a F m0 hF hr he hn hmk
  have hx := lexOk_spec hb
  obtain ⟨E, X, B, hrow, hE, hQ⟩ := dOpsS_row (P := P) (rd := rd) ops.toList 0 env (fun j => by simp) h
  rw [Nat.zero_add, Array.length_toList] at hQ
  refine wpIn_region_any hm ?_
  have hl := Le.drew g w
  have hrepf : ∀ (j : Nat), (Array.replicate ops.size false).getD j false = false := fun j => by
    simp only [Array.getD_eq_getD_getElem?, Array.getElem?_replicate]
    split <;> rfl
  have h0' : st (fun j => (Array.replicate ops.size false).getD j false) = σ := by
    rw [← h0]
    congr 1
    funext j
    exact hrepf j
  refine drawS_sound hx hrow hQ ops.size _ a w.drew g ⟨hF.mono (hl.toN N), by rw [h0']; exact hr.drew, hl.toN N, hn, hmk.mono hl, fun t x hg hno => ?_, fun j p d hj hp hd => ?_, by simp⟩ (fun j p hp hj => ?_) ?_
  · rw [hE] at hg
    obtain ⟨v, hv, hrd⟩ := he t x hg
    exact ⟨v, hv, hrd.mono hl⟩
  · rw [hrepf] at hj; cases hj
  · rw [hrepf] at hj; cases hj
  · have := List.countP_le_length (p := fun i => !(Array.replicate ops.size false).getD i true) (l := List.range ops.size)
    rw [List.length_range] at this
    exact this
end
end Go.MV
end
section
set_option linter.unusedVariables false
set_option linter.unusedSimpArgs false
namespace Go.MV
open Go Go.RowKit
section
variable {P : Program} {rd : Option Nat} {o : Oper} {env : Env} {σ : MS} {K : MV → MS → Prop}
end
end Go.MV
end
section
set_option linter.unusedVariables false
set_option linter.unusedSimpArgs false
namespace Go.MV
open Go Go.RowKit
section
variable {P : Program} {rd : Option Nat} {o : Oper} {env : Env} {σ : MS} {K : MV → MS → Prop}
theorem gets_vec {g : Gh} {w : World} (hr : Rel g σ w) {l : List MV} {us : List Value} {sz n c : Nat} (hl : Rds g w l us) (ty : TypeId) {fr : Nat × Nat} (hfr : FrOk fr us.length) (hn : n ≤ c) (hc : c ≤ maxLen) (h : K (.vec σ.length 0 sz n c) (σ ++ [.cells l])) :
    Gets g w K (.slice (some ⟨w.heap.size, 0, none⟩) n c) (w.alloc (.cells us.toArray ty fr)) := by
  obtain ⟨g', h1, h2, h3⟩ := hr.alloc_objF hl ty fr hfr
  exact ⟨_, _, g', h, h1, .vec _ _ _ _ _ _ h3 hn hc, h2⟩
theorem op_buildSliceV {t e n sz bytes : Nat} {parts : Array (Nat × Operand)} {ms : List MV} (ho : o.op = .buildSlice t n parts) (hu : P.underlying t = some (.slice e)) (he : elemOk P e sz bytes = true) (hp : partsOf env 0 parts.toList = some ms) (hn : ms.length = n) (hn0 : 0 < n) (hsm : n * sz ≤ 16777216)
    (hsz : allSz sz ms = true) (h : K (.vec σ.length 0 sz n n) (σ ++ [.cells (flat ms)])) : OpWp P rd o env σ K := by
  replace hsz := allSz_spec hsz
  refine OpWp.of_run (by simp [ho]) fun g w a hr hop => ?_
  obtain ⟨i, z, hi, hz, hs, hb, hzs, hpos⟩ := elemOk_spec he
  obtain ⟨k1, k2⟩ := partsOf_some (a := a) hp
  have hrds : Rds g w ms (parts.toList.map fun p => a.eval p.2) := k1 fun p hpm m hm => hop p.2 (by simp only [ho, Op.operands, List.mem_toArray, List.mem_map]; simp; exact ⟨p.1, by simpa using hpm⟩) m hm
  have hcs : ∀ v ∈ (parts.toList.map fun p => a.eval p.2), v.cells.size = sz := by
    intro v hv
    obtain ⟨j, hj⟩ := List.getElem?_of_mem hv
    have hlt : j < ms.length := by rw [← hrds.1]; exact (List.getElem?_eq_some_iff.1 hj).1
    obtain ⟨cs, hc, hr⟩ := rds_cells (hrds.2 j _ v (List.getElem?_eq_getElem hlt) hj)
    rw [hc]
    simp only [List.size_toArray, hr.1]
    exact hsz _ (List.getElem_mem hlt)
  have hlen : (parts.toList.map fun p => a.eval p.2).length = n := by rw [hrds.1, hn]
  obtain ⟨res, f1, f2⟩ := fill_all (sz := sz) (parts.toList.map fun p => a.eval p.2) 0 ((Array.range (n * sz)).map (z.cells[· % z.cells.size]!)) hcs (by rw [hlen]; simp)
  rw [hlen] at f2
  simp only [Nat.zero_mul, List.take_zero, List.nil_append, Nat.zero_add] at f2
  have f3 : ((Array.range (n * sz)).map (z.cells[· % z.cells.size]!)).toList.drop (n * sz) = [] := List.drop_eq_nil_of_le (by simp)
  rw [f3, List.append_nil] at f2
  have hres : res = ((parts.toList.map fun p => a.eval p.2).flatMap fun v => v.cells.toList).toArray := by
    rw [← f2]
  have hflat := flat_rds hrds
  have hnz : 0 < n * sz := Nat.mul_pos hn0 hpos
  refine ⟨_, _, ?_, gets_vec hr hflat e (.inl rfl) (Nat.le_refl n) (by
    have : n * 1 ≤ n * sz := Nat.mul_le_mul_left n hpos
    simp only [maxLen]; omega) h⟩
  have hrun := run_buildSlice (P := P) w t e n (parts.map fun (i, x) => (i, a.eval x)) res i z hu hi hz (by rw [hs]; omega) (by rw [hs]; omega) (by
    rw [hs, ← f1]
    congr 1
    rw [← k2]
    simp)
  simp only [execOp, ho, Sem.run_bind, hrun, Result.andThen_ok, Sem.run_pure, hres]
theorem op_indexAddr_vec {t e : TypeId} {x y : Operand} {id off sz n c i : Nat} {k : IntKind} {m : Int} (ho : o.op = .indexAddr t x y) (hu : P.underlying t = some (.slice e)) (hs : szOf P e = some sz) (hx : evo env x = some (.vec id off sz n c)) (hy : evo env y = some (.int k m)) (hm : m = (i : Int)) (hi : i < n) (h : K (.ref id (off + i * sz)) σ) : OpWp P rd o env σ K := by
  refine OpWp.of_run (by simp [ho]) fun g w a hr hop => ?_
  subst hm
  obtain ⟨b, hb, h1, h2, hv⟩ := (hop x (by simp [ho, Op.operands]) _ hx).inv_vec
  have hv2 := (hop y (by simp [ho, Op.operands]) _ hy).inv_int
  refine ⟨.pointer (some ⟨b, off + i * sz, none⟩), w, ?_, .same h hr (.ref _ _ _ hb)⟩
  simp [execOp, ho, Instr.indexAt, hv, hv2, asIntOf, run_underlying hu, hi, szOf_run hs, add_off]
end
theorem Rel.freeze {g : Gh} {σ : MS} {w : World} (h : Rel g σ w) {id b k : Nat} {l : List MV} (hσ : σ[id]? = some (.cells l)) (hb : g.bk id = some b) (hk : k ≤ l.length) :
    Rel (g.stab b k) (σ.set id .gone) w ∧ Le g w (g.stab b k) w := by
  obtain ⟨own, hown⟩ := h.ex
  obtain ⟨b', us, ty, e1, e2, e3, ⟨fr, e4, _⟩, e5⟩ := hown.obj _ _ hσ
  rw [hb] at e2
  injection e2 with e2
  subst e2
  have hle : Le g w (g.stab b k) w := by
    refine ⟨⟨rfl, rfl, fun c i hi => ⟨?_, rfl⟩, fun _ _ h => h, fun _ _ _ h => h, Nat.le_refl _⟩, fun _ _ h => h⟩
    simp only [Gh.stab]
    split
    · rename_i e; subst e; omega
    · exact hi
  have hg := h.gone id
  refine ⟨⟨h.below, h.base, fun c hc => ?_, fun i hi => h.bkn i (by simpa using hi), fun t n ht => h.lgn t n (by simpa using ht), ?_⟩, hle⟩
  · simp only [Gh.stab]
    split
    · rename_i e
      subst e
      have := (hown.lt id c e1).2.2
      omega
    · exact h.fresh c hc
  · refine ⟨fun i => if i = id then none else own i, ⟨fun i ob hi => ?_, fun i j c hi hj => ?_, fun i c hi => ?_⟩⟩
    · by_cases e : i = id
      · subst e
        rw [List.getElem?_set, if_pos rfl] at hi
        split at hi
        · injection hi with hi
          subst hi
          simp [ObjRel]
        · cases hi
      · rw [if_neg e]
        rw [List.getElem?_set_ne (fun h => e h.symm)] at hi
        refine (hown.obj i ob hi).keep0 hle.toLe0 (fun c hc => ⟨rfl, ?_⟩) (fun _ => rfl)
        simp only [Gh.stab]
        rw [if_neg]
        intro ec
        subst ec
        exact e (hown.inj _ _ _ hc e1)
    · split at hi
      · cases hi
      · split at hj
        · cases hj
        · exact hown.inj i j c hi hj
    · split at hi
      · cases hi
      · obtain ⟨h1, h2⟩ := hown.lt i c hi
        exact ⟨by simpa using h1, h2⟩
section
variable {P : Program} {rd : Option Nat} {N n : Nat} {c : Code} {Q : Exit → Env → MS → Prop} {env : Env} {S L : MS}
end
end Go.MV
end
section
set_option linter.unusedVariables false
set_option linter.unusedSimpArgs false
namespace Go.MV
open Go Go.RowKit
theorem Rel.obj_set {g g' : Gh} {σ : MS} {w w' : World} (h : Rel g σ w) {t : Nat} {mo : MObj} (htl : t < σ.length) {own : Nat → Option Nat} (ho : Owns g σ w own) (hl : Le g w g' w') (hb : Below g.B g.w0 w') (hfr : ∀ b, w'.heap.size ≤ b → g'.st b = 0) (hbk : g'.bk = g.bk)
    (hlg : ∀ id k, id ≠ t → g'.lg id k = g.lg id k) (hst : ∀ id b, id ≠ t → own id = some b → w'.heap[b]? = w.heap[b]? ∧ g'.st b = g.st b) {ob : Option Nat} (hob : ObjRel g' w' ob t mo) (hne : ∀ id b, id ≠ t → own id = some b → ob ≠ some b) (hblt : ∀ b, ob = some b → g.B ≤ b ∧ b < w'.heap.size) :
    Rel g' (σ.set t mo) w' := by
  refine ⟨by rw [hl.B, hl.w0]; exact hb, by rw [hl.B, hl.w0]; exact h.base, hfr, fun id hid => by rw [hbk]; exact h.bkn id (by simpa using hid), fun s k hs => by rw [hlg s k (by simp at hs; omega)]; exact h.lgn s k (by simpa using hs), fun id => if id = t then ob else own id, ⟨fun id o hid => ?_, fun i j b hi hj => ?_, fun id b hid => ?_⟩⟩
  · by_cases e : id = t
    · subst e
      simp only [if_true]
      rw [List.getElem?_set_self htl] at hid
      injection hid with hid
      subst hid
      exact hob
    · rw [if_neg e]
      rw [List.getElem?_set_ne (fun h => e h.symm)] at hid
      exact (ho.obj id o hid).keep0 hl.toLe0 (fun b hb => hst id b e hb) fun k => hlg id k e
  · by_cases ei : i = t
    · by_cases ej : j = t
      · omega
      · simp only [ei, if_true] at hi
        simp only [ej, if_false] at hj
        exact absurd hi (hne j b ej hj)
    · by_cases ej : j = t
      · simp only [ej, if_true] at hj
        simp only [ei, if_false] at hi
        exact absurd hj (hne i b ei hi)
      · simp only [ei, ej, if_false] at hi hj
        exact ho.inj i j b hi hj
  · by_cases e : id = t
    · subst e
      simp only [if_true] at hid
      obtain ⟨h1, h2⟩ := hblt b hid
      exact ⟨by simpa using htl, by rw [hl.B]; exact h1, h2⟩
    · simp only [e, if_false] at hid
      obtain ⟨h1, h2, h3⟩ := ho.lt id b hid
      exact ⟨by simpa using h1, by rw [hl.B]; exact h2, Nat.lt_of_lt_of_le h3 hl.size⟩
section
variable {P : Program} {rd : Option Nat} {o : Oper} {env : Env} {σ : MS} {K : MV → MS → Prop}
theorem gets_append_ow {g : Gh} {w : World} (hr : Rel g σ w) {tt ty' e sz bytes t n : Nat} {l : List MV} (hu : P.underlying tt = some (.slice e)) (he : elemOk P e sz bytes = true) (hσ : σ[t]? = some (.orow e sz n l)) {ys : List MV} {tok : Option Nat} {v vy : Value} (hx : Rd g w (.ow t sz n) v)
    (hy : Rd g w (.lst tok sz ys) vy) (hbound : (n + ys.length) * bytes ≤ 140737488355328) (hml : n + ys.length ≤ 4611686018427387904) (hK : K (.ow t sz (n + ys.length)) (σ.set t (.orow e sz (n + ys.length) (l ++ flat ys)))) :
    ∃ v' w', (Builtin.append_ #[tt, tt] ty' #[v, vy]).run P w = .ok v' w' ∧ Gets g w K v' w' := by
  obtain ⟨i, z, hi, hz, hs, hb, hzs, hpos⟩ := elemOk_spec he
  have hlv := hx.inv_ow
  obtain ⟨a', c', us', hvy, k1, k2, k3, k4, k5, _⟩ := hy.inv_lst
  have hsmall : n + ys.length ≤ maxLen := by simp only [maxLen]; omega
  have hlen' : us'.length = ys.length * i.size := by rw [hs, k4.1, flat_length k3]
  obtain ⟨own, ho⟩ := hr.ex
  obtain ⟨v0, us, f1, f2, f3, f4, f5, f6⟩ := ho.obj t _ hσ
  have hvv : v0 = v := by
    rw [hlv] at f1
    injection f1 with f1
    exact f1.symm
  subst hvv
  have htl : t < σ.length := (List.getElem?_eq_some_iff.1 hσ).1
  have hlen : us.length = n * i.size := by rw [hs]; exact f2.1
  by_cases hm : ys = []
  · subst hm
    simp only [List.length_nil, Nat.add_zero, flat_nil, List.append_nil] at hK
    rw [set_self hσ] at hK
    refine ⟨v0, w, ?_, .same hK hr hx⟩
    subst hvy
    have e0 : ∀ ad : Addr, (loadCells ad 0).run P w = .ok #[] w := fun ad => rfl
    rcases f2.2 with ⟨rfl, rfl⟩ | ⟨b, cap, cur, rfl, _, _, hnc, _⟩
    · cases a' <;> simp [Builtin.append_, run_underlying hu, sizeOf, typeInfo, hi, Builtin.lenOf, Builtin.firstCells, e0]
    · cases a' <;> simp [Builtin.append_, run_underlying hu, sizeOf, typeInfo, hi, Builtin.lenOf, Builtin.firstCells, hnc, e0, storeCells]
  have hmpos : 0 < ys.length := List.length_pos_iff.2 hm
  have hp' : 0 < us'.length := by rw [hlen', hs]; exact Nat.mul_pos hmpos hpos
  obtain ⟨ad', rfl, _⟩ := k5 0 us'[0] (List.getElem?_eq_getElem hp')
  have hnews : ∀ (j : Nat) (u : Value), us'[j]? = some u → w.cell? (ad'.add j) = some u := fun j u hj => by
    obtain ⟨ad2, e2, hst⟩ := k5 j u hj
    injection e2 with e2
    subst e2
    exact hst.2.1
  have hone : ∀ u ∈ us', u.oneCell' = true := fun u hmem => by
    obtain ⟨j, hj⟩ := List.getElem?_of_mem hmem
    obtain ⟨_, _, hst⟩ := k5 j u hj
    exact hst.2.2
  have fresh_case : ∀ (cap : Nat) (rest : Array Value), n + ys.length ≤ cap → cap ≤ maxLen → rest.size = (cap - (n + ys.length)) * sz →
      Gets g w K (.slice (some ⟨w.heap.size, 0, none⟩) (n + ys.length) cap) (w.drew.alloc (.cells (us.toArray ++ us'.toArray ++ rest) e)) := by
    intro cap rest hcap hcm hrest
    have harr : us.toArray ++ us'.toArray ++ rest = (us ++ us' ++ rest.toList).toArray := by
      apply Array.ext'
      simp
    rw [harr]
    have hr1 := hr.drew
    have l1 := Le.drew g w
    have l2 := Le.alloc_stab hr1 (.cells (us ++ us' ++ rest.toList).toArray e) 0
    have r2 := hr1.alloc_stab (.cells (us ++ us' ++ rest.toList).toArray e) 0
    generalize hg1 : g.stab w.drew.heap.size 0 = g1 at l2 r2
    generalize hw1 : w.drew.alloc (.cells (us ++ us' ++ rest.toList).toArray e) = w1 at l2 r2
    have ho1 : Owns g1 σ w1 own := by
      refine ho.keep (l1.trans l2) (fun id b e => ?_) (fun _ _ => by rw [← hg1]; rfl)
      have hlt := (ho.lt id b e).2.2
      rw [← hg1, ← hw1]
      refine ⟨Below.heap_alloc w.drew _ b hlt, ?_⟩
      simp only [Gh.stab]
      exact if_neg (Nat.ne_of_lt hlt)
    have l3 : Le g1 w1 (g1.log t (n + ys.length) (.slice (some ⟨w.heap.size, 0, none⟩) (n + ys.length) cap)) w1 := by
      refine ⟨⟨rfl, rfl, fun _ _ h => ⟨h, rfl⟩, fun _ _ h => h, fun s k u hv => ?_, Nat.le_refl _⟩, fun _ _ h => h⟩
      simp only [Gh.log]
      rw [if_neg]
      · exact hv
      · rintro ⟨rfl, rfl⟩
        have : g1.lg s (n + ys.length) = g.lg s (n + ys.length) := by rw [← hg1]; rfl
        rw [this, f5 _ (by omega)] at hv
        cases hv
    have hheap : w1.heap[w.heap.size]? = some (.cells (us ++ us' ++ rest.toList).toArray e (0, 0)) := by rw [← hw1]; exact heap_new w.drew _
    have hsz : w1.heap.size = w.heap.size + 1 := by rw [← hw1]; simp
    have hcurlen : (us ++ us' ++ rest.toList).length = cap * sz := by
      simp only [List.length_append, hlen, hlen', hs, Array.length_toList, hrest]
      rw [← Nat.add_mul, ← Nat.add_mul]
      congr 1
      omega
    have hlall : (us ++ us').length = (n + ys.length) * sz := by rw [List.length_append, hlen, hlen', hs, Nat.add_mul]
    have lall := l1.trans (l2.trans l3)
    refine ⟨_, _, g1.log t (n + ys.length) (.slice (some ⟨w.heap.size, 0, none⟩) (n + ys.length) cap), hK, ?_, ?_, lall⟩
    · refine Rel.obj_set r2 htl ho1 l3 r2.below r2.fresh rfl (fun id k hid => ?_) (fun id b hid hb => ⟨rfl, rfl⟩) (ob := some w.heap.size) ?_ (fun id b hid hb e => ?_) (fun b hb => ?_)
      · simp only [Gh.log]; rw [if_neg (fun h => hid h.1)]
      · refine ⟨.slice (some ⟨w.heap.size, 0, none⟩) (n + ys.length) cap, us ++ us', by simp [Gh.log], ?_, rfl, fun b hb => ?_, fun k hk => ?_, (f6.mono lall).append (k4.mono lall)⟩
        · refine ⟨hlall, .inr ⟨w.heap.size, cap, _, rfl, ?_, hheap, hcap, hcm, by simpa using hcurlen, ?_⟩⟩
          · have : (g1.log t (n + ys.length) (.slice (some ⟨w.heap.size, 0, none⟩) (n + ys.length) cap)).B = g.B := lall.B
            rw [this]
            exact hr.size
          · rw [← hlall]
            exact List.take_left
        · injection hb with hb
          subst hb
          rw [← hg1]
          simp only [Gh.log, Gh.stab]
          exact if_pos rfl
        · simp only [Gh.log]
          rw [if_neg (by omega), ← hg1]
          exact f5 k (by omega)
      · have := (ho.lt id b hb).2.2
        injection e with e
        omega
      · injection hb with hb
        subst hb
        refine ⟨?_, by omega⟩
        rw [← hg1]
        exact hr.size
    · exact .ow _ _ _ _ (by simp [Gh.log]) rfl rfl
  rcases f2.2 with ⟨hv0, hn0⟩ | ⟨b, cap, cur, hv0, hbB, hheap, hnc, hcm, hcs, htake⟩
  ·
    subst hv0
    have hus : us = [] := List.eq_nil_of_length_eq_zero (by rw [hlen, hn0]; simp)
    have hrun := run_append_nil (P := P) w tt ty' e i z hu hi hz ad' ys.length c' us' hlen' hnews hmpos (by omega) (by rw [hb]; rw [hn0] at hbound; simp only [Nat.zero_add] at hbound; omega)
    have hfc := fresh_case (grownCap w ys.length 0 e) (Builtin.zeroCells z.cells (grownCap w ys.length 0 e - ys.length)) (by rw [hn0, Nat.zero_add]; exact grownCap_ge w _ _ _) (grownCap_le_maxLen w _ _ _ (by rw [hn0] at hsmall; omega)) (by rw [size_zeroCells, hzs, hn0]; simp)
    rw [hus, hn0] at hfc
    simp only [Nat.zero_add, Array.empty_append] at hfc
    exact ⟨_, _, by rw [hvy]; exact hrun, hfc⟩
  · subst hv0
    have holds' : ∀ (j : Nat) (u : Value), us[j]? = some u → w.cell? ((⟨b, 0, none⟩ : Addr).add j) = some u := fun j u hj => by
      have hjl : j < n * sz := by rw [← hs, ← hlen]; exact (List.getElem?_eq_some_iff.1 hj).1
      rw [add_off]
      simp only [World.cell?, hheap, Nat.zero_add, Option.isSome_none, Bool.false_eq_true, if_false]
      rw [← htake, List.getElem?_take, if_pos hjl] at hj
      simpa using hj
    by_cases hroom : n + ys.length ≤ cap
    ·
      have hfit : n * i.size + us'.length ≤ cur.size := by rw [hlen', hcs, hs, ← Nat.add_mul]; exact Nat.mul_le_mul_right _ hroom
      have hrun := run_append_room (P := P) w tt ty' e i hu hi b n cap cur hheap ad' ys.length c' us' hlen' hnews hone hroom hfit
      generalize hnc' : (cur.toList.take (n * i.size) ++ us' ++ cur.toList.drop (n * i.size + us'.length)).toArray = ncur at hrun
      have hob : own t = some b := by rw [← f3]; rfl
      have hstb : g.st b = 0 := f4 b hob
      have hbl := ho.lt t b hob
      have hheap' : (w.setRow b ncur).heap[b]? = some (.cells ncur e (0, 0)) := setRow_heap w b cur ncur e _ hheap
      have hother : ∀ k, k ≠ b → (w.setRow b ncur).heap[k]? = w.heap[k]? := fun k hk => setRow_other w b k ncur hk
      have hncur : ncur.toList = us ++ us' ++ cur.toList.drop ((n + ys.length) * sz) := by
        rw [← hnc', hs, htake, hlen', hs, ← Nat.add_mul]
      have hlall : (us ++ us').length = (n + ys.length) * sz := by rw [List.length_append, hlen, hlen', hs, Nat.add_mul]
      let g1 : Gh := g.log t (n + ys.length) (.slice (some ⟨b, 0, none⟩) (n + ys.length) cap)
      have hl : Le g w g1 (w.setRow b ncur) := by
        refine ⟨⟨rfl, rfl, fun k j hj => ?_, fun _ _ h => h, fun s k u hu => ?_, by simp⟩, fun k x hxk => ?_⟩
        · by_cases ek : k = b
          · rw [ek, hstb] at hj
            exact absurd hj (Nat.not_lt_zero _)
          · exact ⟨hj, World.cell?_of_block (w := w) (a := ⟨k, j, none⟩) (hother k ek)⟩
        · show (if s = t ∧ k = n + ys.length then _ else g.lg s k) = _
          rw [if_neg]
          · exact hu
          · rintro ⟨rfl, rfl⟩
            rw [f5 _ (by omega)] at hu
            cases hu
        · have : k ≠ b := fun e => by rw [e, hheap] at hxk; cases hxk
          exact (hother k this).trans hxk
      refine ⟨_, _, by rw [hvy]; exact hrun, _, _, g1, hK, ?_, ?_, hl⟩
      · refine Rel.obj_set hr htl ho hl (hr.below.trans ⟨rfl, rfl, rfl, by simp, fun k hk => hother k (by omega)⟩) (fun k hk => ?_) rfl (fun id k hid => ?_) (fun id k hid hk => ?_) (ob := some b) ?_ (fun id k hid hk e => ?_) (fun k hk => ?_)
        · simp only [setRow_size] at hk
          exact hr.fresh k hk
        · show (if id = t ∧ k = n + ys.length then _ else g.lg id k) = _
          rw [if_neg (fun h => hid h.1)]
        · have hkb : k ≠ b := fun e => by subst e; exact hid (ho.inj _ _ _ hk hob)
          exact ⟨hother k hkb, rfl⟩
        · refine ⟨.slice (some ⟨b, 0, none⟩) (n + ys.length) cap, us ++ us', ?_, ⟨hlall, .inr ⟨b, cap, ncur, rfl, hbB, hheap', hroom, hcm, ?_, ?_⟩⟩, rfl, fun k hk => ?_, fun k hk => ?_, (f6.mono hl).append (k4.mono hl)⟩
          · show (if t = t ∧ n + ys.length = n + ys.length then _ else _) = _
            rw [if_pos ⟨rfl, rfl⟩]
          · have hcl : cur.toList.length = cap * sz := by rw [Array.length_toList, hcs]
            have : (n + ys.length) * sz ≤ cap * sz := Nat.mul_le_mul_right _ hroom
            rw [← Array.length_toList, hncur, List.length_append, hlall, List.length_drop, hcl]
            omega
          · rw [hncur, ← hlall, List.append_assoc, ← List.append_assoc us us']
            exact List.take_left
          · injection hk with hk
            subst hk
            exact hstb
          · show (if t = t ∧ k = n + ys.length then _ else g.lg t k) = none
            rw [if_neg (by omega)]
            exact f5 k (by omega)
        · injection e with e
          subst e
          exact hid (ho.inj _ _ _ hk hob)
        · injection hk with hk
          subst hk
          exact ⟨hbl.2.1, by simpa using hbl.2.2⟩
      · refine .ow _ _ _ _ ?_ rfl rfl
        show (if t = t ∧ n + ys.length = n + ys.length then _ else _) = _
        rw [if_pos ⟨rfl, rfl⟩]
    ·
      have hrun := run_append_grow (P := P) w tt ty' e i z hu hi hz ⟨b, 0, none⟩ n cap us hlen holds' ad' ys.length c' us' hlen' hnews (by omega) (by omega) (growslice_fits (by omega) (by rw [hb]; exact hbound))
      exact ⟨_, _, by rw [hvy]; exact hrun, fresh_case _ _ (grownCap_ge w _ _ _) (grownCap_le_maxLen w _ _ _ hsmall) (by rw [size_zeroCells, hzs])⟩
theorem op_append_ow {t e sz bytes id n : Nat} {x y : Operand} {tok : Option Nat} {l ys : List MV} (ho : o.op = .call { callee := .builtin .append, args := #[x, y], argTypes := #[t, t] }) (hu : P.underlying t = some (.slice e)) (he : elemOk P e sz bytes = true)
    (hx : evo env x = some (.ow id sz n)) (hy : evo env y = some (.lst tok sz ys)) (hσ : σ[id]? = some (.orow e sz n l)) (hb : (n + ys.length) * bytes ≤ 140737488355328) (hml : n + ys.length ≤ 4611686018427387904)
    (hK : K (.ow id sz (n + ys.length)) (σ.set id (.orow e sz (n + ys.length) (l ++ flat ys)))) : OpWp P rd o env σ K := by
  refine OpWp.of_run (by simp [ho]) fun g w a hr hop => ?_
  obtain ⟨v', w', hrun, hg⟩ := gets_append_ow (ty' := o.type) hr hu he hσ (hop x (by simp [ho, Op.operands, Call.operands]) _ hx) (hop y (by simp [ho, Op.operands, Call.operands]) _ hy) hb hml hK
  refine ⟨v', w', ?_, hg⟩
  simp [execOp, ho, resolve, invoke, builtin, hrun]
theorem ow_new {g : Gh} {σ : MS} {w : World} (h : Rel g σ w) (ty sz : Nat) : Rel (g.log σ.length 0 (.slice none 0 0)) (σ ++ [.orow ty sz 0 []]) w ∧ Le g w (g.log σ.length 0 (.slice none 0 0)) w ∧ Rd (g.log σ.length 0 (.slice none 0 0)) w (.ow σ.length sz 0) (.slice none 0 0) := by
  obtain ⟨r1, l1, d1⟩ := tok_new h ty sz
  refine ⟨?_, l1, .ow _ _ _ _ (by simp [Gh.log]) rfl rfl⟩
  obtain ⟨own, hown⟩ := r1.ex
  obtain ⟨v, us, e1, e2, e3, e4, e5⟩ := hown.obj σ.length (.row ty sz 0) (by simp)
  have hv : v = .slice none 0 0 := by
    simp [Gh.log] at e1
    exact e1.symm
  subst hv
  have hno : own σ.length = none := e3.symm
  have hus : us = [] := List.eq_nil_of_length_eq_zero (by rw [e2.1]; simp)
  subst hus
  have := Rel.obj_set r1 (t := σ.length) (mo := .orow ty sz 0 []) (by simp) hown (Le.refl _ _) r1.below r1.fresh rfl (fun _ _ _ => rfl) (fun _ _ _ _ => ⟨rfl, rfl⟩) (ob := none) ⟨_, [], e1, e2, rfl, fun b hb => (by cases hb), e5, .nil _ _⟩ (fun _ _ _ _ e => by cases e) (fun b hb => by cases hb)
  simpa using this
theorem op_indexAddr_ow {t e : TypeId} {x y : Operand} {id sz n i : Nat} {k : IntKind} {m : Int} {l : List MV} (ho : o.op = .indexAddr t x y) (hu : P.underlying t = some (.slice e)) (hs : szOf P e = some sz) (hx : evo env x = some (.ow id sz n)) (hy : evo env y = some (.int k m)) (hm : m = (i : Int)) (hi : i < n)
    (hσ : σ[id]? = some (.orow e sz n l)) (h : K (.orf id n (i * sz)) σ) : OpWp P rd o env σ K := by
  subst hm
  refine OpWp.of_run (by simp [ho]) fun g w a hr hop => ?_
  have hlv := (hop x (by simp [ho, Op.operands]) _ hx).inv_ow
  have e2 := (hop y (by simp [ho, Op.operands]) _ hy).inv_int
  obtain ⟨own, hown⟩ := hr.ex
  obtain ⟨v0, us, f1, f2, _⟩ := hown.obj id _ hσ
  rw [hlv] at f1
  injection f1 with f1
  rcases f2.2 with ⟨_, h0⟩ | ⟨b, cap, cur, hv0, _⟩
  · omega
  · rw [hv0] at f1
    rw [f1] at hlv
    refine ⟨_, w, ?_, .same h hr (.orf _ _ _ b cap hlv)⟩
    simp [execOp, ho, Instr.indexAt, f1, e2, asIntOf, run_underlying hu, hi, szOf_run hs, add_off]
theorem op_len_ow {x : Operand} {id sz n : Nat} {t e : TypeId} {l : List MV} (ho : o.op = .call { callee := .builtin .len, args := #[x], argTypes := #[t] }) (hu : P.underlying t = some (.slice e)) (hx : evo env x = some (.ow id sz n)) (hσ : σ[id]? = some (.orow e sz n l)) (h : K (.int .i64 (n : Int)) σ) : OpWp P rd o env σ K := by
  refine OpWp.of_run (by simp [ho]) fun g w a hr hop => ?_
  have hlv := (hop x (by simp [ho, Op.operands, Call.operands]) _ hx).inv_ow
  obtain ⟨own, hown⟩ := hr.ex
  obtain ⟨v0, us, f1, f2, _⟩ := hown.obj id _ hσ
  rw [hlv] at f1
  injection f1 with f1
  rcases f2.2 with ⟨hv0, h0⟩ | ⟨b, cap, cur, hv0, _⟩
  · rw [hv0] at f1
    subst h0
    refine ⟨_, w, ?_, .same h hr (.int _ _)⟩
    simp [execOp, ho, resolve, invoke, builtin, f1, Builtin.len_, run_underlying hu, goInt]
  · rw [hv0] at f1
    refine ⟨_, w, ?_, .same h hr (.int _ _)⟩
    simp [execOp, ho, resolve, invoke, builtin, f1, Builtin.len_, run_underlying hu, goInt]
theorem op_store_orf {t ty : TypeId} {x y : Operand} {id sz n off : Nat} {l : List MV} {m : MV} {k : Nat} (ho : o.op = .store t x y) (hx : evo env x = some (.orf id n off)) (hy : evo env y = some m) (hσ : σ[id]? = some (.orow ty sz n l)) (hk : szOf P t = some k) (hm : m.cells.length = k)
    (h1 : m.cells.all MV.one = true) (hle : off + k ≤ l.length) (h : K (.tup []) (σ.set id (.orow ty sz n (setMany l off m.cells)))) : OpWp P rd o env σ K := by
  refine OpWp.of_skip (by simp [ho]) fun g w a hr hop => ?_
  obtain ⟨b, c, hlv, e⟩ := (hop x (by simp [ho, Op.operands]) _ hx).inv_orf
  have hrd := hop y (by simp [ho, Op.operands]) _ hy
  obtain ⟨us, hus, hrds⟩ := rds_cells hrd
  obtain ⟨own, hown⟩ := hr.ex
  obtain ⟨v0, old, f1, f2, f3, f4, f5, f6⟩ := hown.obj id _ hσ
  rw [hlv] at f1
  injection f1 with f1
  subst f1
  have htl : id < σ.length := (List.getElem?_eq_some_iff.1 hσ).1
  rcases f2.2 with ⟨hv0, _⟩ | ⟨b', cap, cur, hv0, hbB, hheap, hnc, hcm, hcs, htake⟩
  · cases hv0
  injection hv0 with e1 e2 e3
  injection e1 with e1
  injection e1 with e1
  subst e1
  have hlen : us.length = k := by rw [hrds.1, hm]
  have hold : old.length = l.length := f6.1
  have hone : ∀ v ∈ us, v.oneCell' = true := by
    intro v hv
    obtain ⟨j, hj⟩ := List.getElem?_of_mem hv
    have hjl : j < m.cells.length := by rw [hm, ← hlen]; exact (List.getElem?_eq_some_iff.1 hj).1
    have := hrds.2 j _ v (List.getElem?_eq_getElem hjl) hj
    rw [List.all_eq_true] at h1
    exact one_cell this (h1 _ (List.getElem_mem hjl))
  have hsz : n * sz ≤ cur.size := by rw [hcs]; exact Nat.mul_le_mul_right _ hnc
  have hon : old.length = n * sz := f2.1
  have hcure : cur.toList = old ++ cur.toList.drop (n * sz) := by rw [← htake]; exact (List.take_append_drop _ _).symm
  have hrun := run_storeCells_fr P b off ty (0, 0) us 0 cur w hheap (.inl rfl) (by rw [hlen]; simp; omega) hone
  have hst : (storeVar t ⟨b, off, none⟩ (a.eval y)).run P w = (storeCells ⟨b, off, none⟩ us).run P w := by
    have hsz' : (a.eval y).cells.size = k := by rw [hus]; simpa using hlen
    simp [storeVar, szOf_run hk, hsz', hus, hlen]
  generalize hnc' : (cur.toList.take (off + 0) ++ us ++ cur.toList.drop (off + 0 + us.length)).toArray = ncur at hrun
  have hob : own id = some b := by rw [← f3]; rfl
  have hstb : g.st b = 0 := f4 b hob
  have hbl := hown.lt id b hob
  have hheap' : (w.setRow b ncur).heap[b]? = some (.cells ncur ty (0, 0)) := setRow_heap w b cur ncur ty _ hheap
  have hother : ∀ k, k ≠ b → (w.setRow b ncur).heap[k]? = w.heap[k]? := fun k hk => setRow_other w b k ncur hk
  have hncur : ncur.toList = (old.take off ++ us ++ old.drop (off + us.length)) ++ cur.toList.drop (n * sz) := by
    rw [← hnc', Nat.add_zero]
    show cur.toList.take off ++ us ++ cur.toList.drop (off + us.length) = _
    rw [hcure, List.take_append_of_le_length (by omega), List.drop_append_of_le_length (by omega), ← hcure, List.append_assoc, List.append_assoc, List.append_assoc]
  have hl : Le g w g (w.setRow b ncur) := by
    refine ⟨⟨rfl, rfl, fun k j hj => ?_, fun _ _ h => h, fun s k u hu => hu, by simp⟩, fun k x hxk => ?_⟩
    · by_cases ek : k = b
      · rw [ek, hstb] at hj
        exact absurd hj (Nat.not_lt_zero _)
      · exact ⟨hj, World.cell?_of_block (w := w) (a := ⟨k, j, none⟩) (hother k ek)⟩
    · have : k ≠ b := fun e => by rw [e, hheap] at hxk; cases hxk
      exact (hother k this).trans hxk
  have hnl : (old.take off ++ us ++ old.drop (off + us.length)).length = n * sz := by simp; omega
  refine ⟨w.setRow b ncur, ?_, .tup [], _, g, h, ?_, rd_undef _ _, hl⟩
  · simp only [execOp, ho, e, Instr.storeAt, Instr.sureAddr, Sem.run_bind, Sem.run_pure, Result.andThen_ok, hst, hrun]
  · refine Rel.obj_set hr htl hown hl (hr.below.trans ⟨rfl, rfl, rfl, by simp, fun k hk => hother k (by omega)⟩) (fun k hk => ?_) rfl (fun _ _ _ => rfl) (fun i k hid hk => ?_) (ob := some b) ?_ (fun i k hid hk e => ?_) (fun k hk => ?_)
    · simp only [setRow_size] at hk
      exact hr.fresh k hk
    · have hkb : k ≠ b := fun e => by subst e; exact hid (hown.inj _ _ _ hk hob)
      exact ⟨hother k hkb, rfl⟩
    · refine ⟨_, old.take off ++ us ++ old.drop (off + us.length), hlv, ⟨hnl, .inr ⟨b, cap, ncur, by rw [e3], hbB, hheap', hnc, hcm, ?_, ?_⟩⟩, rfl, fun k hk => ?_, f5, ?_⟩
      · rw [← Array.length_toList, hncur, List.length_append, hnl, List.length_drop, Array.length_toList, hcs]
        rw [hcs] at hsz
        omega
      · rw [hncur, ← hnl]
        exact List.take_left
      · injection hk with hk
        subst hk
        exact hstb
      · unfold setMany
        rw [hm, ← hlen]
        exact (((f6.mono hl).take off).append (hrds.mono hl)).append ((f6.mono hl).drop _)
    · injection e with e
      subst e
      exact hid (hown.inj _ _ _ hk hob)
    · injection hk with hk
      subst hk
      exact ⟨hbl.2.1, by simpa using hbl.2.2⟩
end
theorem Rel.ow_freeze {g : Gh} {σ : MS} {w : World} (h : Rel g σ w) {id ty sz n : Nat} {l xs : List MV} (hσ : σ[id]? = some (.orow ty sz n l)) (hxs : flat xs = l) (hn : xs.length = n) (hsz : ∀ x ∈ xs, x.cells.length = sz) (h1 : ∀ y ∈ l, y.one = true) :
    ∃ g', Rel g' (σ.set id (.row ty sz n)) w ∧ Le g w g' w ∧ ∀ v, Rd g w (.ow id sz n) v → Rd g' w (.lst (some id) sz xs) v := by
  obtain ⟨own, hown⟩ := h.ex
  obtain ⟨v0, us, f1, f2, f3, f4, f5, f6⟩ := hown.obj id _ hσ
  have htl : id < σ.length := (List.getElem?_eq_some_iff.1 hσ).1
  rcases f2.2 with ⟨hv0, h0⟩ | ⟨b, cap, cur, hv0, hbB, hheap, hnc, hcm, hcs, htake⟩
  · subst hv0
    subst h0
    have hxn : xs = [] := List.eq_nil_of_length_eq_zero hn
    subst hxn
    have hno : own id = none := f3.symm
    refine ⟨g, ?_, .refl _ _, fun v hv => ?_⟩
    · exact Rel.obj_set h htl hown (.refl _ _) h.below h.fresh rfl (fun _ _ _ => rfl) (fun _ _ _ _ => ⟨rfl, rfl⟩) (ob := none) ⟨_, us, f1, f2, rfl, fun b hb => (by cases hb), f5⟩ (fun _ _ _ _ e => by cases e) (fun b hb => by cases hb)
    · have := hv.inv_ow
      rw [f1] at this
      injection this with this
      subst this
      exact .lst' (us := []) rfl (by simp) (by simp [maxLen]) (by simp) (.nil _ _) (by simp) (fun t ht => by injection ht with ht; subst ht; rw [f1])
  · subst hv0
    have hob : own id = some b := by rw [← f3]; rfl
    have hstb : g.st b = 0 := f4 b hob
    have hbl := hown.lt id b hob
    have hl : Le g w (g.stab b (n * sz)) w := by
      refine ⟨⟨rfl, rfl, fun k j hj => ⟨?_, rfl⟩, fun _ _ h => h, fun _ _ _ h => h, Nat.le_refl _⟩, fun _ _ h => h⟩
      simp only [Gh.stab]
      split
      · rename_i ek
        rw [ek, hstb] at hj
        exact absurd hj (Nat.not_lt_zero _)
      · exact hj
    have hcell : ∀ j u, us[j]? = some u → w.cell? ⟨b, j, none⟩ = some u := fun j u hj => by
      have hjl : j < n * sz := by rw [← f2.1]; exact (List.getElem?_eq_some_iff.1 hj).1
      simp only [World.cell?, hheap, Option.isSome_none, Bool.false_eq_true, if_false]
      rw [← htake, List.getElem?_take, if_pos hjl] at hj
      simpa using hj
    refine ⟨g.stab b (n * sz), ?_, hl, fun v hv => ?_⟩
    · refine Rel.obj_set h htl hown hl h.below (fun k hk => ?_) rfl (fun _ _ _ => rfl) (fun i k hid hk => ?_) (ob := some b) ⟨_, us, f1, f2, rfl, fun k hk => ?_, f5⟩ (fun i k hid hk e => ?_) (fun k hk => ?_)
      · simp only [Gh.stab]
        rw [if_neg (by omega)]
        exact h.fresh k hk
      · have hkb : k ≠ b := fun e => by subst e; exact hid (hown.inj _ _ _ hk hob)
        refine ⟨rfl, ?_⟩
        simp only [Gh.stab]
        rw [if_neg hkb]
      · injection hk with hk
        subst hk
        simp [Gh.stab]
      · injection e with e
        subst e
        exact hid (hown.inj _ _ _ hk hob)
      · injection hk with hk
        subst hk
        exact hbl.2
    · have := hv.inv_ow
      rw [f1] at this
      injection this with this
      subst this
      refine .lst' (us := us) hn hnc hcm hsz ?_ (fun j u hj => ⟨⟨b, 0, none⟩, rfl, ?_, ?_, ?_⟩) (fun t ht => by injection ht with ht; subst ht; exact f1)
      · rw [hxs]; exact f6.mono hl
      · rw [add_off]
        have hjl : j < n * sz := by rw [← f2.1]; exact (List.getElem?_eq_some_iff.1 hj).1
        simp [Gh.stab]
        exact hjl
      · rw [add_off, Nat.zero_add]
        exact hcell j u hj
      · have hjl : j < l.length := by rw [← f6.1]; exact (List.getElem?_eq_some_iff.1 hj).1
        exact one_cell (f6.2 j _ u (List.getElem?_eq_getElem hjl) hj) (h1 _ (List.getElem_mem hjl))
theorem mwp_owfreeze {P : Program} {rd : Option Nat} {N n : Nat} {c : Code} {Q : Exit → Env → MS → Prop} {env : Env} {σ : MS} (k i : Nat) {id ty sz m : Nat} {cs l xs : List MV} (hk : σ[k]? = some (.cells cs)) (hi : cs[i]? = some (.ow id sz m)) (hσ : σ[id]? = some (.orow ty sz m l)) (hxs : flat xs = l) (hn : xs.length = m) (hsz : ∀ x ∈ xs, x.cells.length = sz) (h1 : ∀ y ∈ l, y.one = true)
    (h : mwp P rd N n c Q env ((σ.set id (.row ty sz m)).set k (.cells (cs.set i (.lst (some id) sz xs))))) : mwp P rd N n c Q env σ := by
  refine mwp_ghost (fun g w tmps hr he => ?_) h
  obtain ⟨g', r1, l1, hv⟩ := hr.ow_freeze hσ hxs hn hsz h1
  have hne : id ≠ k := fun e => by subst e; rw [hk] at hσ; cases hσ
  refine ⟨g', ?_, he.mono l1, l1.toN N, fun F hF => hF.mono (l1.toN N)⟩
  obtain ⟨own, hown⟩ := hr.ex
  obtain ⟨b, us0, ty0, e1, e2, e3, e4, e5⟩ := hown.obj k _ hk
  obtain ⟨u, hu, hrd⟩ := e5.get hi
  have hk' : (σ.set id (.row ty sz m))[k]? = some (.cells cs) := by rw [List.getElem?_set_ne hne]; exact hk
  refine r1.recell hk' fun us hus => ?_
  obtain ⟨u2, hu2, hrd2⟩ := hus.get hi
  have hs := hus.set i (x := .lst (some id) sz xs) (u := u2) ?_
  · obtain ⟨hul, hue⟩ := List.getElem?_eq_some_iff.1 hu2
    rwa [show us.set i u2 = us by rw [← hue]; exact List.set_getElem_self hul] at hs
  · have e7 := hrd2.inv_ow
    have e8 := hrd.inv_ow
    have : u2 = u := by
      have := l1.lg _ _ _ e8
      rw [e7] at this
      injection this
    subst this
    exact hv _ hrd
theorem mwp_cellow {P : Program} {rd : Option Nat} {N n : Nat} {c : Code} {Q : Exit → Env → MS → Prop} {env : Env} {S L L' : MS} (k i ty sz : Nat) {m : Nat} {l : List MV} (hk : L[k]? = some (.cells l)) (hi : l[i]? = some .lst0) (hm : L.length = m) (hL : L.set k (.cells (l.set i (.ow (S.length + m) sz 0))) ++ [.orow ty sz 0 []] = L') (h : mwp P rd N n c Q env (S ++ L')) : mwp P rd N n c Q env (S ++ L) := by
  subst hm hL
  refine mwp_ghost (fun g w tmps hr he => ?_) h
  obtain ⟨r1, l1, d1⟩ := ow_new hr ty sz
  have hlen : (S ++ L).length = S.length + L.length := List.length_append
  refine ⟨_, ?_, he.mono l1, l1.toN N, fun F hF => hF.mono (l1.toN N)⟩
  have hlt := (List.getElem?_eq_some_iff.1 hk).1
  have e : S ++ (L.set k (.cells (l.set i (.ow (S.length + L.length) sz 0))) ++ [.orow ty sz 0 []]) = ((S ++ L) ++ [MObj.orow ty sz 0 []]).set (S.length + k) (.cells (l.set i (.ow (S.length + L.length) sz 0))) := by
    rw [List.append_assoc, set_own, List.set_append_left _ _ hlt]
  rw [e]
  refine r1.recell (l := l) (by rw [List.append_assoc, getElem?_own, List.getElem?_append_left hlt]; exact hk) fun us hus => ?_
  obtain ⟨u, hu, hrd⟩ := hus.get hi
  have hs := hus.set i (x := .ow (S.length + L.length) sz 0) (u := u) (by rw [hrd.inv_lst0, ← hlen]; exact d1)
  obtain ⟨hul, hue⟩ := List.getElem?_eq_some_iff.1 hu
  rwa [show us.set i u = us by rw [← hue]; exact List.set_getElem_self hul] at hs
theorem mwp_freezeC {P : Program} {rd : Option Nat} {N n : Nat} {c : Code} {Q : Exit → Env → MS → Prop} {env : Env} {σ : MS} (k i : Nat) {id sz m cap : Nat} {cs l xs : List MV} (hk : σ[k]? = some (.cells cs)) (hi : cs[i]? = some (.vec id 0 sz m cap)) (hσ : σ[id]? = some (.cells l)) (hne : id ≠ k) (hxs : flat xs = l.take (m * sz)) (hm : xs.length = m) (hsz : ∀ x ∈ xs, x.cells.length = sz) (hle : m * sz ≤ l.length) (h1 : ∀ x ∈ l, x.one = true)
    (h : mwp P rd N n c Q env ((σ.set id .gone).set k (.cells (cs.set i (.lst none sz xs))))) : mwp P rd N n c Q env σ := by
  refine mwp_ghost (fun g w tmps hr he => ?_) h
  obtain ⟨own, hown⟩ := hr.ex
  obtain ⟨b0, us0, ty0, d1, d2, d3, d4, d5⟩ := hown.obj k _ hk
  obtain ⟨u, hu, hrd0⟩ := d5.get hi
  obtain ⟨b, hb, i1, i2, rfl⟩ := hrd0.inv_vec
  obtain ⟨hr', hle'⟩ := hr.freeze hσ hb hle
  obtain ⟨b', us, ty, e1, e2, e3, ⟨fr, e4, _⟩, e5⟩ := hown.obj _ _ hσ
  rw [hb] at e2
  injection e2 with e2
  subst e2
  have hrow : Rd (g.stab b (m * sz)) w (.lst none sz xs) (.slice (some ⟨b, 0, none⟩) m cap) := by
    refine Rd.lst' (us := us.take (m * sz)) hm i1 i2 hsz ?_ (fun j u hu => ?_) (fun t ht => by cases ht)
    · rw [hxs]; exact (e5.take (m * sz)).mono hle'
    · rw [List.getElem?_take] at hu
      split at hu
      · rename_i hj
        refine ⟨_, rfl, ?_, ?_, ?_⟩
        · rw [add_off]; simp [Gh.stab]; omega
        · exact cells_at e4 0 j (by simpa using hu)
        · have hjl : j < l.length := by rw [← e5.1]; exact (List.getElem?_eq_some_iff.1 hu).1
          exact one_cell (e5.2 j _ u (List.getElem?_eq_getElem hjl) hu) (h1 _ (List.getElem_mem hjl))
      · cases hu
  refine ⟨g.stab b (m * sz), ?_, he.mono hle', hle'.toN N, fun F hF => hF.mono (hle'.toN N)⟩
  have hk' : (σ.set id .gone)[k]? = some (.cells cs) := by rw [List.getElem?_set_ne hne]; exact hk
  refine hr'.recell hk' fun vs hvs => ?_
  obtain ⟨u2, hu2, hrd2⟩ := hvs.get hi
  obtain ⟨b2, hb2, _, _, rfl⟩ := hrd2.inv_vec
  have hbb : b2 = b := by
    have := hle'.bk _ _ hb
    rw [hb2] at this
    injection this
  subst hbb
  have hs := hvs.set i hrow
  obtain ⟨hul, hue⟩ := List.getElem?_eq_some_iff.1 hu2
  rwa [show vs.set i (.slice (some ⟨b2, 0, none⟩) m cap) = vs by rw [← hue]; exact List.set_getElem_self hul] at hs
theorem op_buildSliceW {P : Program} {rd : Option Nat} {o : Oper} {env : Env} {K : MV → MS → Prop} {S L L' : MS} {t e n sz bytes k : Nat} {parts : Array (Nat × Operand)} {ms : List MV} (ho : o.op = .buildSlice t n parts) (hu : P.underlying t = some (.slice e)) (he : elemOk P e sz bytes = true) (hp : partsOf env 0 parts.toList = some ms) (hn : ms.length = n) (hn0 : 0 < n) (hsm : n * sz ≤ 16777216)
    (hsz : allSz sz ms = true) (hk : L.length = k) (hL : L ++ [.cells (flat ms)] = L') (h : K (.vec (S.length + k) 0 sz n n) (S ++ L')) : OpWp P rd o env (S ++ L) K := by
  subst hk hL
  refine op_buildSliceV ho hu he hp hn hn0 hsm hsz ?_
  rw [List.length_append, List.append_assoc]
  exact h
theorem ret_cellW {P : Program} {fn : Func} {S σ : MS} {R : MV → MS → Prop} {env : Env} {e : Exit} {a t id off : Nat} {l : List MV} {ta : Option Nat} {x y : MV} (he : e = .normal ∨ e = .ret) (hres : fn.results = #[.cell a t]) (ha : get env a = some (.ref id off)) (hl : σ[id]? = some (.cells l)) (ht : tyAgg P t = some ta) (hm : loadMV ta l off = some x) (hs : Sub x y) (hlen : S.length ≤ σ.length) (hc : Cl σ.length y) (hS : ClS σ) (hR : R y σ) : BodyQ P fn S R e env σ := by
  refine ⟨he, [x], y, σ, [], ?_, hs, hc, by simp, hlen, .inr hS, hR⟩
  rw [hres]
  exact .cell ha hl ht hm .nil
end Go.MV
end
section
set_option linter.unusedVariables false
set_option linter.unusedSimpArgs false
set_option maxRecDepth 20000
set_option maxHeartbeats 400000
namespace Go.Proofs.YtnfcnpdpfgcchaaGreat
open Go Go.MV
def z5 : List MV := [.int .u64 0, .int .u64 0, .lst0, .lst0, .lst0]
def stRow (A R : MS) (ty id j : Nat) (l m : List MV) (D : Nat → Bool) : MS := (A ++ [.cells [bif D 7 then .ow id 5 (j + 1) else .ow id 5 j], bif D 4 then .orow ty 5 (j + 1) (bif D 6 then l ++ m else l ++ z5) else .orow ty 5 j l]) ++ R
theorem stRow_pre {A R : MS} {ty id j : Nat} {l m : List MV} {D : Nat → Bool} (h4 : D 4 = false) (h7 : D 7 = false) : stRow A R ty id j l m D = (A ++ [.cells [.ow id 5 j], .orow ty 5 j l]) ++ R := by unfold stRow; rw [h4, h7]; rfl
theorem stRow_upd {A R : MS} {ty id j : Nat} {l m : List MV} {D : Nat → Bool} {i : Nat} (h4 : i ≠ 4) (h6 : i ≠ 6) (h7 : i ≠ 7) : stRow A R ty id j l m (updD D i) = stRow A R ty id j l m D := by
 have e4 : ¬ 4 = i := fun e => h4 e.symm
 have e6 : ¬ 6 = i := fun e => h6 e.symm
 have e7 : ¬ 7 = i := fun e => h7 e.symm
 unfold stRow updD
 rw [if_neg e4, if_neg e6, if_neg e7]
theorem stRow_all {A R : MS} {ty id j : Nat} {l m : List MV} {D : Nat → Bool} (h4 : D 4 = true) (h6 : D 6 = true) (h7 : D 7 = true) : stRow A R ty id j l m D = (A ++ [.cells [.ow id 5 (j + 1)], .orow ty 5 (j + 1) (l ++ m)]) ++ R := by unfold stRow; rw [h4, h6, h7]; rfl
theorem fl_len (l : List Val) : (flat (encVs l)).length = l.length * 5 := by
 have := flat_length (sz := 5) (xs := encVs l) (fun x hx => by
  rw [encVs_eq] at hx
  obtain ⟨v, _, rfl⟩ := List.mem_map.1 hx
  exact encV_cells v)
 rw [this, encVs_length]
theorem fl_one (l : List Val) : ∀ y ∈ flat (encVs l), y.one = true := fun y hy => by
 rw [encVs_eq] at hy
 unfold flat at hy
 obtain ⟨x, hx, hy⟩ := List.mem_flatMap.1 hy
 obtain ⟨v, _, rfl⟩ := List.mem_map.1 hx
 have := encV_one v
 rw [List.all_eq_true] at this
 exact this y hy
theorem fl_snoc (l : List Val) (x : Val) : flat (encVs (l ++ [x])) = flat (encVs l) ++ (encV x).cells := by
 rw [encVs_append, flat_append]
 congr 1
 show (encV x).cells ++ flat [] = _
 rw [flat_nil, List.append_nil]
theorem sv5 {l : List MV} {j : Nat} {x : Val} (h : l.length = j * 5) : setMany (l ++ z5) (j * 5) (encV x).cells = l ++ (encV x).cells := by
 have e5 := encV_cells x
 unfold setMany
 rw [List.take_append_of_le_length (by omega), List.take_of_length_le (by omega), e5, List.drop_eq_nil_of_le (by simp [z5]; omega), List.append_nil]
theorem get_r0 {A R : MS} {a b : MObj} : ((A ++ [a, b]) ++ R)[A.length + 0]? = some a := by rw [List.append_assoc, getElem?_own]; rfl
theorem get_r1 {A R : MS} {a b : MObj} : ((A ++ [a, b]) ++ R)[A.length + 1]? = some b := by rw [List.append_assoc, getElem?_own]; rfl
theorem set_r0 {A R : MS} {a b c : MObj} : ((A ++ [a, b]) ++ R).set (A.length + 0) c = (A ++ [c, b]) ++ R := by rw [List.append_assoc, set_own, List.append_assoc]; rfl
theorem set_r1 {A R : MS} {a b c : MObj} : ((A ++ [a, b]) ++ R).set (A.length + 1) c = (A ++ [a, c]) ++ R := by rw [List.append_assoc, set_own, List.append_assoc]; rfl
def VIter (k : FuncId) (caps : List MV) (ys : List Val) (F : List (Nat × MObj)) : Prop := ∀ l0, IterOk Tryz.prog k [] caps (ys.map fun p => [encV p]) (fun σ => (σ.length = l0 ∧ Sees F σ) ∧ ClS σ)
theorem rowL_cl {t d ty n k : Nat} {xs : List Val} {o : MObj} (ht : t < d) (ho : o ∈ [MObj.cells [.ow t 5 n], .orow ty 5 k (flat (encVs xs))]) : o.cl d := by
 simp only [List.mem_cons, List.not_mem_nil, or_false] at ho
 rcases ho with rfl | rfl
 ·intro x hx
  simp at hx
  subst hx
  exact .ow _ _ _ ht
 ·exact fun x hx => cl_encVs d xs x hx
theorem row_spec (k : FuncId) (hco : CallOk Tryz.prog k) (caps : List MV) (ys : List Val) (F : List (Nat × MObj)) (S : MS) (hF : Sees F S) (hit : VIter k caps ys F) (hlen : ys.length ≤ 1000000) : MCalls Tryz.prog 24 [.fn (.func k) [] caps] S fun v σ' => v = .lst none 5 (encVs ys) ∧ σ' = S := by
 refine mcalls_body Tryz.func24 rfl Tryz.ntmps24 (Nat.le_of_ble_eq_true rfl) ?_
 refine mwp_seq <| qR rfl <| qA rfl rfl rfl <| qN <| mwp_seq <| qR rfl <| qO rfl <| op_alloc' rfl zm28 rfl rfl <| qN <| mwp_seq <| mwp_seq <| qR rfl <| qM rfl rfl rfl <| qN <| mwp_block <| mwp_cellow 0 0 30 5 rfl rfl rfl rfl ?_
 refine mwp_rangeB (ok := fun σ => σ.length = S.length + 3 ∧ Sees F σ) (ys := ys.map fun p => [encV p]) .ret (.inl rfl) (fun j => true) (fun j => ([.cells [.ow (S.length + 1) 5 ((ys.take j).length)], .orow 30 5 (ys.take j).length (flat (encVs (ys.take j)))] : MS)) (fun j => ([.cells [.ow (S.length + 1) 5 ((ys.take j).length)], .orow 30 5 (ys.take j).length (flat (encVs (ys.take j)))] : MS)) (fun j => rfl) (fun j => rfl) rfl (fun j o ho n hn => rowL_cl (by simp at hn; omega) ho) (fun j o ho n hn => rowL_cl (by simp at hn; omega) ho) rfl hco rfl (by simp) (hit _) (fun j => ⟨by simp only [List.length_append, List.length_cons, List.length_nil], (hF.app).app⟩) (fun j s q => ⟨by simp only [List.length_append, List.length_cons, List.length_nil], (hF.app).app⟩) rfl (fun y hy => by obtain ⟨i, _, rfl⟩ := List.mem_map.1 hy; rfl) ?_ ?_ ?_
 ·
  intro j y hy hbef L'
  rw [List.getElem?_map] at hy
  obtain ⟨⟨n1, m1, s1, c1, w1⟩, hp, rfl⟩ := Option.map_eq_some_iff.1 hy
  have hjl := (List.getElem?_eq_some_iff.1 hp).1
  have htl : (ys.take j).length ≤ 1000000 := by rw [List.length_take]; omega
  have hL0 := fl_len (ys.take j)
  have htk : ys.take (j + 1) = ys.take j ++ [.mk n1 m1 s1 c1 w1] := by rw [List.take_add_one, hp]; rfl
  refine qR rfl <| qO rfl <| op_alloc rfl zm30 <| qO rfl <| op_store_last rfl rfl rfl sz30 rfl rfl (Nat.le_of_ble_eq_true rfl) <| qN ?_
  refine ⟨rfl, [_], rfl, ?_⟩
  have hl1 : (ys.take j ++ [Val.mk n1 m1 s1 c1 w1]).length = (ys.take j).length + 1 := by simp
  rw [htk, fl_snoc, hl1]
  clear hl1 htk hbef
  generalize (ys.take j).length = jl at htl hL0
  generalize flat (encVs (ys.take j)) = L0 at hL0
  rw [List.append_assoc (S ++ _)]
  refine mwp_abs fun R hR => ?_

  refine mwp_block ?_
  refine mwp_drawS (stRow S R 30 (S.length + 1) jl L0 (encV (.mk n1 m1 s1 c1 w1)).cells) mo (by decide) rfl ?_
  refine dOpsS_op (x := .ow (S.length + 1) 5 jl) rfl (fun D hD => ?_) ?_
  ·have h7 : D 7 = false := by
    cases h : D 7 with
    | false => rfl
    | true =>
     have := hD.2.2 7 _ rfl h 0 (by decide)
     rw [hD.1] at this
     cases this
   have h4 : D 4 = false := by
    cases h : D 4 with
    | false => rfl
    | true =>
     have := hD.2.2 4 _ rfl h 0 (by decide)
     rw [hD.1] at this
     cases this
   rw [stRow_upd (by decide) (by decide) (by decide), stRow_pre h4 h7]
   exact op_load_ref rfl rfl get_r0 ta28 rfl ⟨rfl, rfl⟩
  refine dOpsS_op (x := encV (.mk n1 m1 s1 c1 w1)) rfl (fun D hD => ?_) ?_
  ·have h7 : D 7 = false := by
    cases h : D 7 with
    | false => rfl
    | true =>
     have := hD.2.2 7 _ rfl h 1 (by decide)
     rw [hD.1] at this
     cases this
   have h4 : D 4 = false := by
    cases h : D 4 with
    | false => rfl
    | true =>
     have := hD.2.2 4 _ rfl h 1 (by decide)
     rw [hD.1] at this
     cases this
   rw [stRow_upd (by decide) (by decide) (by decide), stRow_pre h4 h7]
   exact op_load_ref rfl rfl (by rw [hR]; exact get_rt) ta30 rfl ⟨rfl, rfl⟩
  refine dOpsS_op (x := .int .i64 (jl : Int)) rfl (fun D hD => ?_) ?_
  ·have h7 : D 7 = false := by
    cases h : D 7 with
    | false => rfl
    | true =>
     have := hD.2.2 7 _ rfl h 2 (by decide)
     rw [hD.1] at this
     cases this
   have h4 : D 4 = false := by
    cases h : D 4 with
    | false => rfl
    | true =>
     have := hD.2.2 4 _ rfl h 2 (by decide)
     rw [hD.1] at this
     cases this
   rw [stRow_upd (by decide) (by decide) (by decide), stRow_pre h4 h7]
   exact op_len_ow rfl Tryz.underlying28 rfl get_r1 ⟨rfl, rfl⟩
  refine dOpsS_op (x := .lst none 5 [.agg z5]) rfl (fun D hD => ?_) ?_
  ·have h7 : D 7 = false := by
    cases h : D 7 with
    | false => rfl
    | true =>
     have := hD.2.2 7 _ rfl h 3 (by decide)
     rw [hD.1] at this
     cases this
   have h4 : D 4 = false := by
    cases h : D 4 with
    | false => rfl
    | true =>
     have := hD.2.2 4 _ rfl h 3 (by decide)
     rw [hD.1] at this
     cases this
   rw [stRow_upd (by decide) (by decide) (by decide), stRow_pre h4 h7]
   exact op_buildSlice rfl Tryz.underlying28 el30 rfl rfl (by decide) (by decide) rfl rfl ⟨rfl, rfl⟩
  refine dOpsS_op (x := .ow (S.length + 1) 5 (jl + 1)) rfl (fun D hD => ?_) ?_
  ·have h7 : D 7 = false := by
    cases h : D 7 with
    | false => rfl
    | true =>
     have := hD.2.2 7 _ rfl h 4 (by decide)
     rw [hD.1] at this
     cases this
   have h6 : D 6 = false := by
    cases h : D 6 with
    | false => rfl
    | true =>
     have h5 := hD.2.2 6 _ rfl h 5 (by decide)
     have := hD.2.2 5 _ rfl h5 4 (by decide)
     rw [hD.1] at this
     cases this
   rw [stRow_pre hD.1 h7]
   exact op_append_ow rfl Tryz.underlying28 el30 rfl rfl get_r1 (by simp only [List.length_cons, List.length_nil]; omega) (by simp only [List.length_cons, List.length_nil]; omega) ⟨rfl, by rw [set_r1]; unfold stRow updD; simp only [h6, h7]; rfl⟩
  refine dOpsS_op (x := .orf (S.length + 1) (jl + 1) (jl * 5)) rfl (fun D hD => ?_) ?_
  ·have h4 : D 4 = true := hD.2.1 4 (by decide)
   rw [stRow_upd (by decide) (by decide) (by decide)]
   have hg : ∃ l', (stRow S R 30 (S.length + 1) jl L0 (encV (.mk n1 m1 s1 c1 w1)).cells D)[S.length + 1]? = some (.orow 30 5 (jl + 1) l') := by unfold stRow; rw [h4]; exact ⟨_, get_r1⟩
   obtain ⟨l', hg⟩ := hg
   exact op_indexAddr_ow rfl Tryz.underlying28 sz30 rfl rfl rfl (Nat.lt_succ_self _) hg ⟨rfl, rfl⟩
  refine dOpsS_op (x := .tup []) rfl (fun D hD => ?_) ?_
  ·have h4 : D 4 = true := by
    have h5 : D 5 = true := hD.2.1 5 (by decide)
    exact hD.2.2 5 _ rfl h5 4 (by decide)
   have hg : (stRow S R 30 (S.length + 1) jl L0 (encV (.mk n1 m1 s1 c1 w1)).cells D)[S.length + 1]? = some (.orow 30 5 (jl + 1) (L0 ++ z5)) := by unfold stRow; rw [h4, hD.1]; exact get_r1
   refine op_store_orf rfl rfl rfl hg sz30 rfl rfl (by simp [z5, hL0]) ⟨rfl, ?_⟩
   rw [show setMany (L0 ++ z5) (jl * 5) (encV (.mk n1 m1 s1 c1 w1)).cells = L0 ++ (encV (.mk n1 m1 s1 c1 w1)).cells from sv5 hL0]
   unfold stRow updD
   simp only [h4, hD.1]
   exact set_r1
  refine dOpsS_op (x := .tup []) rfl (fun D hD => ?_) ?_
  ·have h4 : D 4 = true := hD.2.1 4 (by decide)
   have hg : (stRow S R 30 (S.length + 1) jl L0 (encV (.mk n1 m1 s1 c1 w1)).cells D)[S.length + 0]? = some (.cells [.ow (S.length + 1) 5 jl]) := by unfold stRow; rw [hD.1]; exact get_r0
   refine op_store rfl rfl rfl hg sz28 rfl rfl (Nat.le_of_ble_eq_true rfl) ⟨rfl, ?_⟩
   unfold stRow updD
   simp only [h4, hD.1]
   exact set_r0
  refine dOpsS_nil ?_
  exact .inl ⟨rfl, rfl, [_], by rw [stRow_all rfl rfl rfl, hR]; exact (List.append_assoc (S ++ _) _ _).symm⟩
 ·
  intro _
  rw [List.length_map, List.take_length, List.append_assoc]
  refine mwp_owfreeze (S.length + 0) 0 (id := S.length + 1) (xs := encVs ys) (by rw [getElem?_own]; rfl) rfl (by rw [getElem?_own]; rfl) rfl (encVs_length ys) (fun x hx => by rw [encVs_eq] at hx; obtain ⟨v, _, rfl⟩ := List.mem_map.1 hx; exact encV_cells v) (fl_one ys) ?_
  rw [set_own, set_own]
  refine mwp_seq <| qR rfl <| qL rfl rfl rfl rfl ta28 rfl <| qA rfl rfl rfl <| qN <| mwp_ret ?_
  exact ret_tmp (.inr rfl) Tryz.results24 rfl (.view _ _ _) (cl_encVl _ _) ⟨rfl, rfl⟩
 ·
  intro j y hy hp
  cases hp
end Go.Proofs.YtnfcnpdpfgcchaaGreat
end
section
set_option linter.unusedVariables false
set_option linter.unusedSimpArgs false
set_option maxRecDepth 20000
set_option maxHeartbeats 400000
namespace Go.Proofs.YtnfcnpdpfgcchaaGreat
open Go Go.MV
theorem eqlQ {a b : Int} (h : a = b) : intCmp .eql a b = some true := by simp [intCmp, h]
theorem eqlN {a b : Int} (h : a ≠ b) : intCmp .eql a b = some false := by simp [intCmp, h]
theorem cut_one {α β : Type} {l : List α} {f : α → β} {i : Nat} {x : α} (h : l[i]? = some x) : ((l.map f).drop i).take (i + 1 - i) = [f x] := by
 obtain ⟨hl, rfl⟩ := List.getElem?_eq_some_iff.1 h
 rw [show i + 1 - i = 1 by omega, List.drop_eq_getElem_cons (by simpa using hl)]
 simp
theorem set_two {a b p : List MV} {i : Nat} (ha : a.length = 5) (hb : b.length = 5) (hp : p.length = 5) (hi : i < 2) : setMany (a ++ b) (0 + i * 5) p = if i = 0 then p ++ b else a ++ p := by
 rcases i with _ | _ | i
 ·simp [setMany, ha, hp]
 ·simp [setMany, ha, hb, hp]
 ·omega
theorem fl_two (a b : Val) : flat (encVs [a, b]) = ((encV a).cells ++ (encV b).cells).take (2 * 5) := by
 show (encV a).cells ++ ((encV b).cells ++ []) = _
 rw [List.append_nil, List.take_of_length_le (by simp [encV_cells])]
theorem two_one (a b : Val) : ∀ x ∈ (encV a).cells ++ (encV b).cells, x.one = true := fun x hx => by
 have h1 := encV_one a
 have h2 := encV_one b
 rw [List.all_eq_true] at h1 h2
 rcases List.mem_append.1 hx with h | h
 ·exact h1 x h
 ·exact h2 x h
def vecP (id : Nat) : MV := .agg [.int .u64 0, .int .u64 0, .lst0, .lst0, .vec id 0 5 2 2]
theorem cl_vecP {n id : Nat} (h : id < n) : Cl n (vecP id) := .agg _ fun x hx => by
 simp only [List.mem_cons, List.not_mem_nil, or_false] at hx
 rcases hx with rfl | rfl | rfl | rfl | rfl
 ·exact .int _ _
 ·exact .int _ _
 ·exact .lst0
 ·exact .lst0
 ·exact .vec _ _ _ _ _ h
def pairO (c d : MObj) (a b : Val) (S : MS) : MS := S ++ [c, d, .cells (vecP (S.length + 3)).cells, .cells ((encV a).cells ++ (encV b).cells)]
theorem bottomV_spec (t1 t2 : Sch) (h1 : isF 16 t1 = true) (h2 : isF 16 t2 = true) (S : MS) : MCalls Tryz.prog 88 [encS (.mk 5 [t1, t2])] S fun v σ' => v = vecP (S.length + 3) ∧ σ' = pairO (.cells (encS (.mk 5 [t1, t2])).cells) (.cells (vecP (S.length + 3)).cells) (bottomF t1) (bottomF t2) S := by
 obtain ⟨k1, i1⟩ := t1
 obtain ⟨k2, i2⟩ := t2
 obtain ⟨⟨n1, m1, s1, c1, w1⟩, e1⟩ : ∃ v, bottomF (.mk k1 i1) = v := ⟨_, rfl⟩
 obtain ⟨⟨n2, m2, s2, c2, w2⟩, e2⟩ : ∃ v, bottomF (.mk k2 i2) = v := ⟨_, rfl⟩
 have ih1 := bottom_spec 16 (.mk k1 i1) h1
 have ih2 := bottom_spec 16 (.mk k2 i2) h2
 rw [e1, e2]
 simp only [e1] at ih1
 simp only [e2] at ih2
 refine mcalls_body Tryz.func88 rfl Tryz.ntmps88 (Nat.le_of_ble_eq_true rfl) ?_
 refine mwp_seq <| qR rfl <| qB rfl rfl rfl rfl rfl <| qO rfl <| op_alloc' rfl zm30 rfl rfl <| qN <| mwp_seq <| qR rfl <| qO rfl <| op_alloc' rfl zm30 rfl rfl <| qN <| mwp_seq <| mwp_seq <| qR rfl <| qF rfl rfl rfl fo24_0 <| qL rfl rfl rfl rfl ta3 rfl <| qC rfl rfl rfl rfl (eqlQ rfl) <| qN <| mwp_cond_t rfl (rfl) ?_
 refine mwp_draw [10, 12] [_, S ++ [.cells (encS (.mk 5 [.mk k1 i1, .mk k2 i2])).cells, .cells [.int .u64 0, .int .u64 0, .lst0, .lst0, .lst0], .cells [.int .u64 0, .int .u64 0, .lst0, .lst0, .lst0], .cells ((encV (.mk n1 m1 s1 c1 w1)).cells ++ (encV (.mk n2 m2 s2 c2 w2)).cells)], S ++ [.cells (encS (.mk 5 [.mk k1 i1, .mk k2 i2])).cells, .cells [.int .u64 0, .int .u64 0, .lst0, .lst0, .lst0], .cells (vecP (S.length + 3)).cells, .cells ((encV (.mk n1 m1 s1 c1 w1)).cells ++ (encV (.mk n2 m2 s2 c2 w2)).cells)]] mo (by decide) rfl rfl rfl rfl ?_
 refine dOps_op rfl rfl (.cons (op_fieldAddr_ref rfl rfl fo24_1 ⟨rfl, rfl⟩) (.cons (op_fieldAddr_ref rfl rfl fo24_1 ⟨rfl, rfl⟩) (.nil))) <| dOps_op rfl rfl (.cons (op_load' rfl rfl rfl ta22 rfl ⟨rfl, rfl⟩) (.cons (op_load' rfl rfl rfl ta22 rfl ⟨rfl, rfl⟩) (.nil))) <| dOps_op rfl rfl (.cons (op_indexAddr rfl Tryz.underlying22 sz24 (by decide) rfl rfl rfl (show _ = some (encS (.mk k1 i1)) from rfl) ⟨rfl, rfl⟩) (.cons (op_indexAddr rfl Tryz.underlying22 sz24 (by decide) rfl rfl rfl (show _ = some (encS (.mk k1 i1)) from rfl) ⟨rfl, rfl⟩) (.nil))) ?_
 refine dOps_op rfl rfl (.cons (op_load_sptr rfl rfl ta24 rfl ⟨rfl, rfl⟩) (.cons (op_load_sptr rfl rfl ta24 rfl ⟨rfl, rfl⟩) (.nil))) <| dOps_op rfl rfl (.cons (op_call rfl rfl rfl co88 (ih1 _)) .nil) <| dOps_op rfl rfl (.cons (op_fieldAddr_ref rfl rfl fo24_1 ⟨rfl, rfl⟩) (.cons (op_fieldAddr_ref rfl rfl fo24_1 ⟨rfl, rfl⟩) (.nil))) <| dOps_op rfl rfl (.cons (op_load' rfl rfl rfl ta22 rfl ⟨rfl, rfl⟩) (.cons (op_load' rfl rfl rfl ta22 rfl ⟨rfl, rfl⟩) (.nil))) <| dOps_op rfl rfl (.cons (op_indexAddr rfl Tryz.underlying22 sz24 (by decide) rfl rfl rfl (show _ = some (encS (.mk k2 i2)) from rfl) ⟨rfl, rfl⟩) (.cons (op_indexAddr rfl Tryz.underlying22 sz24 (by decide) rfl rfl rfl (show _ = some (encS (.mk k2 i2)) from rfl) ⟨rfl, rfl⟩) (.nil))) ?_
 refine dOps_op rfl rfl (.cons (op_load_sptr rfl rfl ta24 rfl ⟨rfl, rfl⟩) (.cons (op_load_sptr rfl rfl ta24 rfl ⟨rfl, rfl⟩) (.nil))) <| dOps_op rfl rfl (.cons (op_call rfl rfl rfl co88 (ih2 _)) .nil) <| dOps_eff rfl rfl rfl rfl (op_buildSliceW rfl Tryz.underlying28 el30 rfl rfl (by decide) (by decide) rfl rfl rfl ⟨rfl, rfl⟩) ?_
 refine dO rfl rfl rfl (op_fieldAddr_ref rfl rfl fo30_4 ⟨rfl, rfl⟩) <| dOps_eff rfl rfl rfl rfl (op_store' rfl rfl rfl rfl sz28 rfl rfl (Nat.le_of_ble_eq_true rfl) rfl ⟨rfl, rfl⟩) <| dOps_nil <| mwp_seq <| qR rfl <| qL rfl rfl rfl rfl ta30 rfl <| qO rfl <| op_store' rfl rfl rfl rfl sz30 rfl rfl (Nat.le_of_ble_eq_true rfl) rfl <| qN ?_
 refine mwp_facts fun hcv hcl => ?_
 refine mwp_ret ?_
 have hclE := hcl
 exact ret_cellW (.inr rfl) Tryz.results88 rfl (by rw [getElem?_own]; rfl) ta30 rfl (.refl _) (by simp) (cl_vecP (by simp)) hcl ⟨rfl, rfl⟩
theorem bottomV_at (t1 t2 : Sch) (h1 : isF 16 t1 = true) (h2 : isF 16 t2 = true) (S : MS) (x y : MObj) : MCalls Tryz.prog 88 [encS (.mk 5 [t1, t2])] (S ++ [x, y]) fun v σ' => v = vecP (S.length + 5) ∧ σ' = S ++ [x, y, .cells (encS (.mk 5 [t1, t2])).cells, .cells (vecP (S.length + 5)).cells, .cells (vecP (S.length + 5)).cells, .cells ((encV (bottomF t1)).cells ++ (encV (bottomF t2)).cells)] := by
 refine (bottomV_spec t1 t2 h1 h2 (S ++ [x, y])).mono ?_
 rintro v σ' ⟨rfl, rfl⟩
 exact ⟨by simp, by simp [pairO]⟩
theorem Is_at {s : Sch} (h : isF 16 s = true) (S : MS) : MCalls Tryz.prog 43 [encS s] S fun v σ' => v = .bool true ∧ σ' = S := by rw [← h]; exact Is_spec s S
theorem BottomV_spec (t1 t2 : Sch) (hs : isF 16 (.mk 5 [t1, t2]) = true) (h1 : isF 16 t1 = true) (h2 : isF 16 t2 = true) (S : MS) : MCalls Tryz.prog 60 [encS (.mk 5 [t1, t2])] S fun v σ' => v = vecP (S.length + 5) ∧ σ' = S ++ [.cells (encS (.mk 5 [t1, t2])).cells, .cells (vecP (S.length + 5)).cells, .cells (encS (.mk 5 [t1, t2])).cells, .cells (vecP (S.length + 5)).cells, .cells (vecP (S.length + 5)).cells, .cells ((encV (bottomF t1)).cells ++ (encV (bottomF t2)).cells)] := by
 refine mcalls_body Tryz.func60 rfl Tryz.ntmps60 (Nat.le_of_ble_eq_true rfl) ?_
 refine mwp_seq <| qR rfl <| qB rfl rfl rfl rfl rfl <| qO rfl <| op_alloc' rfl zm30 rfl rfl <| qN <| mwp_seq <| mwp_seq <| qR rfl <| qL rfl rfl rfl rfl ta24 rfl ?_
 refine wOps_op rfl (op_call rfl rfl rfl co43 (((Is_at hs _)).mono ?_))
 rintro _ _ ⟨rfl, rfl⟩
 refine qO rfl <| op_not rfl rfl <| qN <| mwp_cond_f rfl (rfl) <| mwp_skip <| mwp_seq <| qR rfl <| qL rfl rfl rfl rfl ta24 rfl ?_
 refine wOps_op rfl (op_call rfl rfl rfl co88 ((bottomV_at t1 t2 h1 h2 S _ _).mono ?_))
 rintro _ _ ⟨rfl, rfl⟩
 refine qO rfl <| op_store' rfl rfl rfl rfl sz30 rfl rfl (Nat.le_of_ble_eq_true rfl) rfl <| qN ?_
 refine mwp_facts fun hcv hcl => ?_
 refine mwp_ret ?_
 exact ret_cellW (.inr rfl) Tryz.results60 rfl (by rw [getElem?_own]; rfl) ta30 rfl (.refl _) (by simp) (cl_vecP (by simp)) hcl ⟨rfl, rfl⟩
theorem BottomV_at (t1 t2 : Sch) (hs : isF 16 (.mk 5 [t1, t2]) = true) (h1 : isF 16 t1 = true) (h2 : isF 16 t2 = true) (S : MS) (x y : MObj) : MCalls Tryz.prog 60 [encS (.mk 5 [t1, t2])] (S ++ [x, y]) fun v σ' => v = vecP (S.length + 7) ∧ σ' = S ++ [x, y, .cells (encS (.mk 5 [t1, t2])).cells, .cells (vecP (S.length + 7)).cells, .cells (encS (.mk 5 [t1, t2])).cells, .cells (vecP (S.length + 7)).cells, .cells (vecP (S.length + 7)).cells, .cells ((encV (bottomF t1)).cells ++ (encV (bottomF t2)).cells)] := by
 refine (BottomV_spec t1 t2 hs h1 h2 (S ++ [x, y])).mono ?_
 rintro v σ' ⟨rfl, rfl⟩
 exact ⟨by simp, by simp⟩
theorem mapAlone_spec (n0 m0 : Int) (s0 : List Bs) (c0 : List (List Tk)) (w0 : List Val) (i : Nat) (x : Bs) (hx : s0[i]? = some x) (hi40 : i ≤ 1000) (p : Val) (idv idi : Nat) (S : MS) (hv : S[idv]? = some (.cells (encV (.mk n0 m0 s0 c0 w0)).cells)) (hi : S[idi]? = some (.cells [.int .i64 (i : Int)])) : MCalls Tryz.prog 47 [encV p, .ref idv 0, .ref idi 0] S fun v σ' => v = encV (.mk 0 0 [x] [] [p]) ∧ σ' = S := by
 obtain ⟨n, m, s, c, w⟩ := p
 refine mcalls_body Tryz.func47 rfl Tryz.ntmps47 (Nat.le_of_ble_eq_true rfl) ?_
 have hil := (List.getElem?_eq_some_iff.1 hx).1
 refine mwp_seq <| qR rfl <| qB rfl rfl rfl rfl rfl <| qO rfl <| op_alloc' rfl zm30 rfl rfl <| qN <| mwp_seq ?_
 refine mwp_draw [11] [_, S ++ [.cells (encV (.mk n m s c w)).cells, .cells (encV (.mk 0 0 [x] [] [(.mk n m s c w)])).cells]] mo (by decide) rfl rfl rfl rfl ?_
 refine dO rfl rfl rfl (op_fieldAddr_ref rfl rfl fo30_2 ⟨rfl, rfl⟩) <| dO rfl rfl rfl (op_load_far rfl rfl hv ta26 rfl ⟨rfl, rfl⟩) <| dO rfl rfl rfl (op_load_far rfl rfl hi ta3 rfl ⟨rfl, rfl⟩) <| dO rfl rfl rfl (op_load_far rfl rfl hi ta3 rfl ⟨rfl, rfl⟩) <| dO rfl rfl rfl (op_arith rfl rfl rfl (wadd (a := i) (b := 1) rfl (by omega)) ⟨rfl, rfl⟩) ?_
 refine dO rfl rfl rfl (op_load_far rfl rfl hi ta3 rfl ⟨rfl, rfl⟩) <| dO rfl rfl rfl (op_arith rfl rfl rfl (wadd (a := i) (b := 1) rfl (by omega)) ⟨rfl, rfl⟩) ?_
 refine dO rfl rfl rfl (op_slice3 rfl Tryz.underlying26 sz9 rfl rfl rfl rfl rfl rfl rfl (by omega) (by simp only [List.length_map]; omega) ⟨rfl, rfl⟩) ?_
 rw [cut_one (f := encX) hx]
 refine dO rfl rfl rfl (op_load' rfl rfl rfl ta30 rfl ⟨rfl, rfl⟩) <| dO rfl rfl rfl (op_buildSlice rfl Tryz.underlying28 el30 rfl rfl (by decide) (by decide) rfl rfl ⟨rfl, rfl⟩) ?_
 refine dOps_op rfl rfl (.cons (op_viewTo (y := encV (.mk 0 0 [x] [] [(.mk n m s c w)])) (op_build rfl Tryz.underlying30 zm30 (.cons fo30_2 sz26 rfl rfl (Nat.le_of_ble_eq_true rfl) (.cons fo30_4 sz28 rfl rfl (Nat.le_of_ble_eq_true rfl) .nil)) (by kernel_rfl) ⟨rfl, rfl⟩) (.agg (.cons (.refl _) (.cons (.refl _) (.cons (.refl _) (.cons (.nil 1) (.cons (.refl _) .nil)))))) ⟨rfl, rfl⟩) .nil) ?_
 refine dOps_eff rfl rfl rfl rfl (op_store' rfl rfl rfl rfl sz30 rfl rfl (Nat.le_of_ble_eq_true rfl) rfl ⟨rfl, rfl⟩) <| dOps_nil <| mwp_ret ?_
 exact ret_cell (y := encV (.mk 0 0 [x] [] [(.mk n m s c w)])) (.inr rfl) Tryz.results47 rfl rfl ta30 rfl (.refl _) (cl_encV _ _) ⟨rfl, rfl⟩
theorem sibAlone_spec (n0 m0 : Int) (s0 : List Bs) (c0 : List (List Tk)) (w0 : List Val) (i : Nat) (x : List Tk) (hx : c0[i]? = some x) (hi40 : i ≤ 1000) (p : Val) (idv idi : Nat) (S : MS) (hv : S[idv]? = some (.cells (encV (.mk n0 m0 s0 c0 w0)).cells)) (hi : S[idi]? = some (.cells [.int .i64 (i : Int)])) : MCalls Tryz.prog 79 [encV p, .ref idv 0, .ref idi 0] S fun v σ' => v = encV (.mk 0 0 [] [x] [p]) ∧ σ' = S := by
 obtain ⟨n, m, s, c, w⟩ := p
 refine mcalls_body Tryz.func79 rfl Tryz.ntmps79 (Nat.le_of_ble_eq_true rfl) ?_
 have hil := (List.getElem?_eq_some_iff.1 hx).1
 refine mwp_seq <| qR rfl <| qB rfl rfl rfl rfl rfl <| qO rfl <| op_alloc' rfl zm30 rfl rfl <| qN <| mwp_seq ?_
 refine mwp_draw [11] [_, S ++ [.cells (encV (.mk n m s c w)).cells, .cells (encV (.mk 0 0 [] [x] [(.mk n m s c w)])).cells]] mo (by decide) rfl rfl rfl rfl ?_
 refine dO rfl rfl rfl (op_fieldAddr_ref rfl rfl fo30_3 ⟨rfl, rfl⟩) <| dO rfl rfl rfl (op_load_far rfl rfl hv ta27 rfl ⟨rfl, rfl⟩) <| dO rfl rfl rfl (op_load_far rfl rfl hi ta3 rfl ⟨rfl, rfl⟩) <| dO rfl rfl rfl (op_load_far rfl rfl hi ta3 rfl ⟨rfl, rfl⟩) <| dO rfl rfl rfl (op_arith rfl rfl rfl (wadd (a := i) (b := 1) rfl (by omega)) ⟨rfl, rfl⟩) ?_
 refine dO rfl rfl rfl (op_load_far rfl rfl hi ta3 rfl ⟨rfl, rfl⟩) <| dO rfl rfl rfl (op_arith rfl rfl rfl (wadd (a := i) (b := 1) rfl (by omega)) ⟨rfl, rfl⟩) ?_
 refine dO rfl rfl rfl (op_slice3 rfl Tryz.underlying27 sz55 rfl rfl rfl rfl rfl rfl rfl (by omega) (by simp only [List.length_map]; omega) ⟨rfl, rfl⟩) ?_
 rw [cut_one (f := encC) hx]
 refine dO rfl rfl rfl (op_load' rfl rfl rfl ta30 rfl ⟨rfl, rfl⟩) <| dO rfl rfl rfl (op_buildSlice rfl Tryz.underlying28 el30 rfl rfl (by decide) (by decide) rfl rfl ⟨rfl, rfl⟩) ?_
 refine dOps_op rfl rfl (.cons (op_viewTo (y := encV (.mk 0 0 [] [x] [(.mk n m s c w)])) (op_build rfl Tryz.underlying30 zm30 (.cons fo30_3 sz27 rfl rfl (Nat.le_of_ble_eq_true rfl) (.cons fo30_4 sz28 rfl rfl (Nat.le_of_ble_eq_true rfl) .nil)) (by kernel_rfl) ⟨rfl, rfl⟩) (.agg (.cons (.refl _) (.cons (.refl _) (.cons (.nil 1) (.cons (.refl _) (.cons (.refl _) .nil)))))) ⟨rfl, rfl⟩) .nil) ?_
 refine dOps_eff rfl rfl rfl rfl (op_store' rfl rfl rfl rfl sz30 rfl rfl (Nat.le_of_ble_eq_true rfl) rfl ⟨rfl, rfl⟩) <| dOps_nil <| mwp_ret ?_
 exact ret_cell (y := encV (.mk 0 0 [] [x] [(.mk n m s c w)])) (.inr rfl) Tryz.results79 rfl rfl ta30 rfl (.refl _) (cl_encV _ _) ⟨rfl, rfl⟩
theorem pairAlone0_spec (t1 t2 : Sch) (hs : isF 16 (.mk 5 [t1, t2]) = true) (h1 : isF 16 t1 = true) (h2 : isF 16 t2 = true) (p : Val) (ids idi : Nat) (S : MS) (hv : S[ids]? = some (.cells (encS (.mk 5 [t1, t2])).cells)) (hi : S[idi]? = some (.cells [.int .i64 0])) : MCalls Tryz.prog 78 [encV p, .ref ids 0, .ref idi 0] S fun v σ' => v = encV (.mk 0 0 [] [] [p, (bottomF t2)]) ∧ σ' = S := by
 obtain ⟨n, m, s, c, w⟩ := p
 refine mcalls_body Tryz.func78 rfl Tryz.ntmps78 (Nat.le_of_ble_eq_true rfl) ?_
 refine mwp_seq <| qR rfl <| qB rfl rfl rfl rfl rfl <| qO rfl <| op_alloc' rfl zm30 rfl rfl <| qN <| mwp_seq <| qR rfl <| qO rfl <| op_load_far rfl rfl hv ta24 rfl ?_
 refine wOps_op rfl (op_call rfl rfl rfl co60 ((BottomV_at t1 t2 hs h1 h2 S _ _).mono ?_))
 rintro _ _ ⟨rfl, rfl⟩
 refine qO rfl <| op_alloc' rfl zm30 rfl rfl <| qO rfl <| op_store' rfl rfl rfl rfl sz30 rfl rfl (Nat.le_of_ble_eq_true rfl) rfl <| qN <| mwp_seq <| qR rfl <| qF rfl rfl rfl fo30_4 <| qL rfl rfl rfl rfl ta28 rfl <| qO rfl <| op_load_far rfl rfl hi ta3 rfl <| qO rfl <| op_viewTo (y := encV (.mk n m s c w)) (op_load' rfl rfl rfl ta30 rfl ⟨rfl, rfl⟩) (.refl _) <| qO rfl <| op_indexAddr_vec rfl Tryz.underlying28 sz30 rfl rfl (i := 0) rfl (by decide) ?_
 refine wOps_op rfl (op_store (id := S.length + 7) rfl rfl rfl (by rw [getElem?_own]; rfl) sz30 rfl rfl (by simp [encV_cells]) ?_)
 rw [set_own, set_two (encV_cells _) (encV_cells _) (encV_cells _) (by decide), if_pos rfl]
 refine qN <| mwp_seq ?_
 refine mwp_freezeC (S.length + 8) 4 (id := S.length + 7) (m := 2) (sz := 5) (cap := 2) (xs := encVs [(.mk n m s c w), (bottomF t2)]) (by rw [getElem?_own]; rfl) rfl (by rw [getElem?_own]; rfl) (by omega) (fl_two _ _) rfl (fun x hx => by rw [encVs_eq] at hx; obtain ⟨v, _, rfl⟩ := List.mem_map.1 hx; exact encV_cells v) (by simp [encV_cells]) (two_one _ _) ?_
 rw [set_own, set_own]
 refine qR rfl <| qL rfl rfl rfl rfl ta30 rfl <| qO rfl <| op_store' rfl rfl rfl rfl sz30 rfl rfl (Nat.le_of_ble_eq_true rfl) rfl <| qN <| mwp_ret ?_
 exact ret_cell (y := encV (.mk 0 0 [] [] [(.mk n m s c w), (bottomF t2)])) (.inr rfl) Tryz.results78 rfl rfl ta30 rfl (.agg (.cons (.refl _) (.cons (.refl _) (.cons (.nil 1) (.cons (.nil 1) (.cons (.refl _) .nil)))))) (cl_encV _ _) ⟨rfl, rfl⟩
theorem pairAlone1_spec (t1 t2 : Sch) (hs : isF 16 (.mk 5 [t1, t2]) = true) (h1 : isF 16 t1 = true) (h2 : isF 16 t2 = true) (p : Val) (ids idi : Nat) (S : MS) (hv : S[ids]? = some (.cells (encS (.mk 5 [t1, t2])).cells)) (hi : S[idi]? = some (.cells [.int .i64 1])) : MCalls Tryz.prog 78 [encV p, .ref ids 0, .ref idi 0] S fun v σ' => v = encV (.mk 0 0 [] [] [(bottomF t1), p]) ∧ σ' = S := by
 obtain ⟨n, m, s, c, w⟩ := p
 refine mcalls_body Tryz.func78 rfl Tryz.ntmps78 (Nat.le_of_ble_eq_true rfl) ?_
 refine mwp_seq <| qR rfl <| qB rfl rfl rfl rfl rfl <| qO rfl <| op_alloc' rfl zm30 rfl rfl <| qN <| mwp_seq <| qR rfl <| qO rfl <| op_load_far rfl rfl hv ta24 rfl ?_
 refine wOps_op rfl (op_call rfl rfl rfl co60 ((BottomV_at t1 t2 hs h1 h2 S _ _).mono ?_))
 rintro _ _ ⟨rfl, rfl⟩
 refine qO rfl <| op_alloc' rfl zm30 rfl rfl <| qO rfl <| op_store' rfl rfl rfl rfl sz30 rfl rfl (Nat.le_of_ble_eq_true rfl) rfl <| qN <| mwp_seq <| qR rfl <| qF rfl rfl rfl fo30_4 <| qL rfl rfl rfl rfl ta28 rfl <| qO rfl <| op_load_far rfl rfl hi ta3 rfl <| qO rfl <| op_viewTo (y := encV (.mk n m s c w)) (op_load' rfl rfl rfl ta30 rfl ⟨rfl, rfl⟩) (.refl _) <| qO rfl <| op_indexAddr_vec rfl Tryz.underlying28 sz30 rfl rfl (i := 1) rfl (by decide) ?_
 refine wOps_op rfl (op_store (id := S.length + 7) rfl rfl rfl (by rw [getElem?_own]; rfl) sz30 rfl rfl (by simp [encV_cells]) ?_)
 rw [set_own, set_two (encV_cells _) (encV_cells _) (encV_cells _) (by decide), if_neg (by decide)]
 refine qN <| mwp_seq ?_
 refine mwp_freezeC (S.length + 8) 4 (id := S.length + 7) (m := 2) (sz := 5) (cap := 2) (xs := encVs [(bottomF t1), (.mk n m s c w)]) (by rw [getElem?_own]; rfl) rfl (by rw [getElem?_own]; rfl) (by omega) (fl_two _ _) rfl (fun x hx => by rw [encVs_eq] at hx; obtain ⟨v, _, rfl⟩ := List.mem_map.1 hx; exact encV_cells v) (by simp [encV_cells]) (two_one _ _) ?_
 rw [set_own, set_own]
 refine qR rfl <| qL rfl rfl rfl rfl ta30 rfl <| qO rfl <| op_store' rfl rfl rfl rfl sz30 rfl rfl (Nat.le_of_ble_eq_true rfl) rfl <| qN <| mwp_ret ?_
 exact ret_cell (y := encV (.mk 0 0 [] [] [(bottomF t1), (.mk n m s c w)])) (.inr rfl) Tryz.results78 rfl rfl ta30 rfl (.agg (.cons (.refl _) (.cons (.refl _) (.cons (.nil 1) (.cons (.nil 1) (.cons (.refl _) .nil)))))) (cl_encV _ _) ⟨rfl, rfl⟩
theorem each_spec (s : Sch) (v : Val) (S : MS) : MCalls Tryz.prog 25 [encS s, encV v] S fun r σ' => r = .fn (.func 45) [] [.ref S.length 0, .ref (S.length + 1) 0] ∧ σ' = S ++ [.cells (encS s).cells, .cells (encV v).cells] := by
 obtain ⟨k, ins⟩ := s
 obtain ⟨n, m, s, c, w⟩ := v
 refine mcalls_body Tryz.func25 rfl Tryz.ntmps25 (Nat.le_of_ble_eq_true rfl) ?_
 refine mwp_seq <| qR rfl <| qB rfl rfl rfl rfl rfl <| qB rfl rfl rfl rfl rfl <| qA rfl rfl rfl <| qN <| mwp_seq <| qR rfl <| qO rfl <| op_makeFunc rfl rfl rfl <| qA rfl rfl rfl <| qN ?_
 refine mwp_facts fun hcv hcl => ?_
 refine mwp_ret ?_
 exact ret_tmpT (.inr rfl) Tryz.results25 rfl (.refl _) (hcv 4 _ rfl) (by simp) hcl ⟨rfl, rfl⟩
end Go.Proofs.YtnfcnpdpfgcchaaGreat
end
section
set_option linter.unusedVariables false
set_option linter.unusedSimpArgs false
set_option maxRecDepth 20000
set_option maxHeartbeats 400000
namespace Go.Proofs.YtnfcnpdpfgcchaaGreat
open Go Go.MV
theorem rem_nat (a b : Nat) : Int.tmod (a : Int) (b : Int) = ((a % b : Nat) : Int) := rfl
theorem u64_nat {m : Nat} (h : m < 18446744073709551616) : IntKind.u64.wrap (m : Int) = (m : Int) := wrap_u64 (by omega)
theorem uadd {a b c : Nat} (h : a + b = c) (hc : c < 18446744073709551616) : intArith .add .u64 (a : Int) (b : Int) = some (c : Int) := by
 show some (IntKind.u64.wrap ((a : Int) + (b : Int))) = _
 rw [show (a : Int) + (b : Int) = (c : Int) by omega, wrap_u64 (by omega)]
end Go.Proofs.YtnfcnpdpfgcchaaGreat
end
section
set_option linter.unusedVariables false
set_option linter.unusedSimpArgs false
set_option maxRecDepth 20000
set_option maxHeartbeats 400000
namespace Go.Proofs.YtnfcnpdpfgcchaaGreat
open Go Go.MV
theorem all_at_ {s : Sch} {l : List Val} {r : Except Int Val} (hl : ∀ x ∈ l, okV x) (h : AllF s l = r) (S : MS) : MCalls Tryz.prog 32 [encS s, .lst none 5 (encVs l)] S fun v σ' => v = encJ r ∧ σ' = S := h ▸ joinAll_spec s l hl S
theorem join_ok_of {s : Sch} {a b v : Val} (hs : isF 16 s = true) (ha : isVF s a = true) (hb : isVF s b = true) (h : bothF s a b = some v) : joinVF s a b = .ok v := by
 unfold joinVF
 rw [if_pos ⟨by rw [hs, ha]; rfl, by rw [hs, hb]; rfl⟩, h]
theorem okV_num {a : Int} (h : 0 ≤ a ∧ a < 18446744073709551616) : okV (.mk a 0 [] [] []) := by simp [okV, okVs]; omega
end Go.Proofs.YtnfcnpdpfgcchaaGreat
end
section
set_option linter.unusedVariables false
set_option linter.unusedSimpArgs false
set_option maxRecDepth 20000
set_option maxHeartbeats 400000
namespace Go.Proofs.YtnfcnpdpfgcchaaGreat
open Go Go.MV
theorem is_set (A : List Bs) : isVF (.mk 3 []) (.mk 0 0 A [] []) = isRowF A := by
 rw [isVF_mk 3]
 simp [bareF, numsK, textsK, clocksK, valuesK, Val.nv, Val.mv, Val.sv, Val.cv, Val.vv]
theorem both_set (A B : List Bs) : bothF (.mk 3 []) (.mk 0 0 A [] []) (.mk 0 0 B [] []) = if 40 < (bothX A B).length then none else some (.mk 0 0 (bothX A B) [] []) := by
 rw [bothF_mk, show bothB 3 (bothL []) (.mk 0 0 A [] []) (.mk 0 0 B [] []) = some (.mk 0 0 (bothX A B) [] []) from rfl]
 have hl : largeF (.mk 0 0 (bothX A B) [] []) = decide (40 < (bothX A B).length) := by rw [large_eq]; simp
 by_cases h : 40 < (bothX A B).length
 ·rw [cap_t (by rw [hl]; exact decide_eq_true h), if_pos h]
 ·rw [cap_f (by rw [hl]; exact decide_eq_false h), if_neg h]
theorem join_set {A B : List Bs} (ha : isRowF A = true) (hb : isRowF B = true) : joinVF (.mk 3 []) (.mk 0 0 A [] []) (.mk 0 0 B [] []) = if 40 < (bothX A B).length then .error 13 else .ok (.mk 0 0 (bothX A B) [] []) := by
 unfold joinVF
 rw [if_pos ⟨by rw [is_set, ha]; rfl, by rw [is_set, hb]; rfl⟩, both_set]
 by_cases h : 40 < (bothX A B).length
 ·rw [if_pos h, if_pos h]
 ·rw [if_neg h, if_neg h]
end Go.Proofs.YtnfcnpdpfgcchaaGreat
end
section
set_option linter.unusedVariables false
set_option linter.unusedSimpArgs false
namespace Go.MV
open Go Go.RowKit Go.ChangeShapes Go.WideShapes Go.Deep
def g0 (W : World) : Gh := { B := W.heap.size, w0 := W, st := fun b => match W.heap[b]? with | some (.cells c _ _) => c.size | _ => 0, bk := fun _ => none, lg := fun _ _ => none }
theorem rel0 (W : World) : Rel (g0 W) [] W := by
  refine ⟨.refl _ _, Nat.le_refl _, fun b hb => ?_, fun _ _ => rfl, fun _ _ _ => rfl, fun _ => none, ⟨fun id o h => (by simp at h), fun i j b h => (by cases h), fun id b h => (by cases h)⟩⟩
  show (match W.heap[b]? with | some (.cells c _ _) => c.size | _ => 0) = 0
  rw [Array.getElem?_eq_none hb]
theorem stab0 {W : World} {ad : Addr} {k : Nat} {v : Value} (h : W.cell? (ad.add k) = some v) (h1 : v.oneCell' = true) : Stab (g0 W) W ad k v := by
  refine ⟨?_, h, h1⟩
  have e := cell_spot h
  rw [e] at h
  show _ < (match W.heap[(ad.add k).block]? with | some (.cells c _ _) => c.size | _ => 0)
  unfold World.cell? at h
  split at h
  · rename_i c t f hc
    simp only [Option.isSome_none, Bool.false_eq_true, if_false] at h
    simp only at hc
    rw [hc]
    exact (Array.getElem?_eq_some_iff.1 h).1
  · cases h
def TyFs (T : TypeId → List MV → Prop) : List Field → List MV → Prop
  | [], l => l = []
  | f :: fs, l => ∃ a b, l = a ++ b ∧ T f.type a ∧ TyFs T fs b
def ElF (P : Program) (e : TypeId) (x : MV) : Prop := match P.underlying e with | some (.struct _) => x = .agg x.cells | _ => [x] = x.cells
def TyM (P : Program) : Nat → TypeId → List MV → Prop
  | 0, _, _ => False
  | n + 1, t, l =>
    match P.underlying t with
    | some (.int k) => ∃ v, l = [.int k v] ∧ (Lit.int k v).wf = true
    | some .bool => ∃ b, l = [.bool b]
    | some .string => ∃ s, l = [.str s] ∧ s.size ≤ maxLen
    | some (.slice e) => ∃ xs, l = [.lst none (P.cellsOf e) xs] ∧ ∀ x ∈ xs, x.cells.length = P.cellsOf e ∧ TyM P n e x.cells ∧ ElF P e x
    | some (.struct fs) => TyFs (TyM P n) fs.toList l
    | _ => False
def contig (P : Program) (size : Nat) : List Field → Nat → Bool
  | [], off => Nat.beq off size
  | f :: fs, off => Nat.beq f.offset off && contig P size fs (off + P.cellsOf f.type)
def okTypes (P : Program) (ts : List TypeId) : Bool :=
  ts.all fun t => match P.underlying t with
    | some (.int _) | some .bool | some .string => true
    | some (.slice e) => natMem e ts && (match P.underlying e with | some (.struct _) => true | _ => Nat.beq (P.cellsOf e) 1)
    | some (.struct fs) => fs.toList.all (fun f => natMem f.type ts) && contig P (P.cellsOf t) fs.toList 0
    | _ => false
theorem rds_of_fields {P : Program} {W : World} {T : TypeId → List MV → Prop} {cs : List Value} {size : Nat} (hlen : cs.length = size) : ∀ (fs : List Field) (off : Nat), contig P size fs off = true →
    (∀ f ∈ fs, ∃ l, Rds (g0 W) W l ((cs.drop f.offset).take (P.cellsOf f.type)) ∧ T f.type l ∧ l.length = P.cellsOf f.type ∧ ∀ y ∈ l, y.one = true) → ∃ l, Rds (g0 W) W l (cs.drop off) ∧ TyFs T fs l ∧ ∀ y ∈ l, y.one = true
  | [], off, hc, _ => by
    have := Nat.eq_of_beq_eq_true hc
    refine ⟨[], ?_, rfl, fun y hy => by cases hy⟩
    rw [List.drop_eq_nil_of_le (by omega)]
    exact .nil _ _
  | f :: fs, off, hc, h => by
    simp only [contig, Bool.and_eq_true] at hc
    have ho := Nat.eq_of_beq_eq_true hc.1
    obtain ⟨a, h1, h2, h3, h5⟩ := h f (List.mem_cons_self ..)
    obtain ⟨b, k1, k2, k3⟩ := rds_of_fields hlen fs _ hc.2 (fun f' hf' => h f' (List.mem_cons_of_mem _ hf'))
    refine ⟨a ++ b, ?_, ⟨a, b, rfl, h2, k2⟩, fun y hy => (List.mem_append.1 hy).elim (h5 y) (k3 y)⟩
    have e : cs.drop off = (cs.drop off).take (P.cellsOf f.type) ++ cs.drop (off + P.cellsOf f.type) := by
      rw [← List.drop_drop, List.take_append_drop]
    rw [e]
    rw [ho] at h1
    exact h1.append k1
theorem tyFs_mono {T T' : TypeId → List MV → Prop} (h : ∀ t l, T t l → T' t l) : ∀ (fs : List Field) (l : List MV), TyFs T fs l → TyFs T' fs l
  | [], l, hl => hl
  | f :: fs, l, ⟨a, b, e, h1, h2⟩ => ⟨a, b, e, h _ _ h1, tyFs_mono h fs b h2⟩
theorem tyM_succ {P : Program} : ∀ (n : Nat) (t : TypeId) (l : List MV), TyM P n t l → TyM P (n + 1) t l
  | 0, t, l, h => h.elim
  | n + 1, t, l, h => by
    unfold TyM at h ⊢
    split at h
    · rename_i k hu; exact h
    · rename_i hu; exact h
    · rename_i hu; exact h
    · rename_i e hu
      obtain ⟨xs, h1, h2⟩ := h
      exact ⟨xs, h1, fun x hx => ⟨(h2 x hx).1, tyM_succ n _ _ (h2 x hx).2.1, (h2 x hx).2.2⟩⟩
    · rename_i fs hu; exact tyFs_mono (tyM_succ n) _ _ h
    · exact h.elim
theorem tyM_le {P : Program} {n m : Nat} (h : n ≤ m) {t : TypeId} {l : List MV} (ht : TyM P n t l) : TyM P m t l := by
  obtain ⟨d, rfl⟩ := Nat.le.dest h
  induction d with
  | zero => exact ht
  | succ d ih => exact tyM_succ _ _ _ (ih (by omega))
section
variable {H : Type} {enc : TypeId × Value → H} {P : Program} {W : World} {base : Nat} {spare : Nat → Bool} {held : Bool}
theorem common_bound {α : Type} {p : Nat → α → Prop} (hm : ∀ n m a, n ≤ m → p n a → p m a) : ∀ (l : List α), (∀ a ∈ l, ∃ n, p n a) → ∃ n, ∀ a ∈ l, p n a
  | [], _ => ⟨0, fun a h => by cases h⟩
  | a :: l, h => by
    obtain ⟨n, hn⟩ := h a (List.mem_cons_self ..)
    obtain ⟨m, hm'⟩ := common_bound hm l (fun b hb => h b (List.mem_cons_of_mem _ hb))
    refine ⟨max n m, fun b hb => ?_⟩
    rcases List.mem_cons.1 hb with rfl | hb
    · exact hm _ _ _ (by omega) hn
    · exact hm _ _ _ (by omega) (hm' b hb)
theorem reads_gen {ts : List TypeId} (hok : okTypes P ts = true) : ∀ (n : Nat) (x : DataW H × List MemPlace) (fuel : Nat) (t : TypeId) (cs : List Value), SizeOf.sizeOf x.1 ≤ n → t ∈ ts → DataW.trod enc P W base spare held fuel t cs = some x →
    ∃ (l : List MV) (m : Nat), Rds (g0 W) W l cs ∧ TyM P m t l ∧ ∀ y ∈ l, y.one = true := by
  intro n
  induction n using Nat.strongRecOn with
  | _ n ih =>
  intro x fuel t cs hx ht h
  have hot : (match P.underlying t with
    | some (.int _) | some .bool | some .string => true
    | some (.slice e) => natMem e ts && (match P.underlying e with | some (.struct _) => true | _ => Nat.beq (P.cellsOf e) 1)
    | some (.struct fs) => fs.toList.all (fun f => natMem f.type ts) && contig P (P.cellsOf t) fs.toList 0
    | _ => false) = true := by
    simp only [okTypes, List.all_eq_true] at hok
    exact hok t ht
  split at hot
  · rename_i k hu
    obtain ⟨v, rfl, rfl, hwf⟩ := DataW.trod_int hu h
    refine ⟨[.int k v], 1, .cons (.int _ _) (.nil _ _), ?_, by simp [MV.one]⟩
    unfold TyM
    rw [hu]
    exact ⟨v, rfl, hwf⟩
  · rename_i hu
    obtain ⟨b, rfl, rfl⟩ := DataW.trod_bool hu h
    refine ⟨[.bool b], 1, .cons (.bool _) (.nil _ _), ?_, by simp [MV.one]⟩
    unfold TyM
    rw [hu]
    exact ⟨b, rfl⟩
  · rename_i hu
    obtain ⟨s, rfl, rfl, hs⟩ := DataW.trod_string hu h
    refine ⟨[.str s], 1, .cons (.str _) (.nil _ _), ?_, by simp [MV.one]⟩
    unfold TyM
    rw [hu]
    exact ⟨s, rfl, hs⟩
  · rename_i e hu
    simp only [Bool.and_eq_true] at hot
    have he : e ∈ ts := natMem_iff.1 hot.1
    rcases open_slice hu h with ⟨rfl, rfl⟩ | ⟨a, len, cap, m, n', D, Pl, rfl, hb, hl, hm, hmm, rfl, hi⟩
    · refine ⟨[.lst none (P.cellsOf e) []], 1, .cons (Sub.nil _ _ _ _ .lst0) (.nil _ _), ?_, by simp [MV.one]⟩
      unfold TyM
      rw [hu]
      exact ⟨[], rfl, fun x hx => by cases hx⟩
    · have hlm : len ≤ m := by rw [hmm]; split <;> omega
      have hel : ∀ i, i < len → ∃ (l : List MV) (k : Nat) (us : List Value), us.length = P.cellsOf e ∧ Rds (g0 W) W l us ∧ TyM P k e l ∧ (∀ y ∈ l, y.one = true) ∧ ∀ j, j < P.cellsOf e → W.cell? ((a.add (i * P.cellsOf e)).add j) = us[j]? := by
        intro i hil
        obtain ⟨cs', hc, ht'⟩ := hi i (by omega)
        obtain ⟨_, hlen, hcell⟩ := World.cells?_some hc
        have hsz : SizeOf.sizeOf (D i) < n := by
          have hmem : D i ∈ (List.range len).map D := List.mem_map.2 ⟨i, List.mem_range.2 hil, rfl⟩
          have := List.sizeOf_lt_of_mem hmem
          simp only [DataW.slice.sizeOf_spec] at hx
          omega
        obtain ⟨l, k, h1, h2, h3⟩ := ih _ hsz (D i, Pl i) n' e cs' (Nat.le_refl _) he ht'
        exact ⟨l, k, cs', hlen, h1, h2, h3, hcell⟩
      have hall : ∀ (N : Nat), N ≤ len → ∃ (xs : List MV) (us : List Value) (k : Nat), xs.length = N ∧ us.length = N * P.cellsOf e ∧ Rds (g0 W) W (flat xs) us ∧ (∀ y ∈ flat xs, y.one = true) ∧ (∀ x ∈ xs, x.cells.length = P.cellsOf e ∧ TyM P k e x.cells ∧ ElF P e x) ∧
          ∀ j, j < N * P.cellsOf e → W.cell? (a.add j) = us[j]? := by
        intro N
        induction N with
        | zero => exact fun _ => ⟨[], [], 0, rfl, by simp, .nil _ _, by simp [flat], by simp, by simp⟩
        | succ N ihN =>
          intro hN
          obtain ⟨xs, us, k, q1, q2, q3, q4, q5, q6⟩ := ihN (by omega)
          obtain ⟨l, k', us', r1, r2, r3, r4, r5⟩ := hel N (by omega)
          have hll : l.length = P.cellsOf e := by rw [← r2.1, r1]
          obtain ⟨y, hy1, hy2⟩ : ∃ y : MV, y.cells = l ∧ ElF P e y := by
            cases hue : P.underlying e with
            | none => 
              have hk1 : P.cellsOf e = 1 := by have := hot.2; rw [hue] at this; exact Nat.eq_of_beq_eq_true this
              match l, hll.trans hk1 with
              | [y], _ =>
                have := r4 y (List.mem_cons_self ..)
                simp only [ElF, hue]
                refine ⟨y, ?_, ?_⟩ <;> (cases y <;> first | rfl | (cases this; done))
            | some d =>
              cases d with
              | struct fs => exact ⟨.agg l, rfl, by simp only [ElF, hue]; rfl⟩
              | _ =>
                have hk1 : P.cellsOf e = 1 := by have := hot.2; rw [hue] at this; exact Nat.eq_of_beq_eq_true this
                match l, hll.trans hk1 with
                | [y], _ =>
                  have := r4 y (List.mem_cons_self ..)
                  simp only [ElF, hue]
                  refine ⟨y, ?_, ?_⟩ <;> (cases y <;> first | rfl | (cases this; done))
          refine ⟨xs ++ [y], us ++ us', max k k', by simp [q1], by rw [List.length_append, q2, r1, Nat.add_mul]; omega, ?_, ?_, ?_, ?_⟩
          · rw [flat_append]
            refine q3.append ?_
            simp only [flat, List.flatMap_cons, List.flatMap_nil, List.append_nil, hy1]
            exact r2
          · intro z hz
            rw [flat_append, List.mem_append] at hz
            rcases hz with hz | hz
            · exact q4 z hz
            · simp only [flat, List.flatMap_cons, List.flatMap_nil, List.append_nil, hy1] at hz
              exact r4 z hz
          · intro x hx
            rcases List.mem_append.1 hx with hx | hx
            · exact ⟨(q5 x hx).1, tyM_le (by omega) (q5 x hx).2.1, (q5 x hx).2.2⟩
            · simp at hx
              subst hx
              rw [hy1]
              exact ⟨hll, tyM_le (by omega) r3, hy2⟩
          · intro j hj
            rw [Nat.add_mul, Nat.one_mul] at hj
            by_cases hjl : j < N * P.cellsOf e
            · rw [List.getElem?_append_left (by omega)]
              exact q6 j hjl
            · rw [List.getElem?_append_right (by omega), q2, ← r5 (j - N * P.cellsOf e) (by omega), Go.MV.add_add]
              congr 2
              omega
      obtain ⟨xs, us, k, q1, q2, q3, q4, q5, q6⟩ := hall len (Nat.le_refl _)
      refine ⟨[.lst none (P.cellsOf e) xs], k + 1, .cons (.lst' q1 hl hm (fun x hx => (q5 x hx).1) q3 (fun j u hu => ⟨a, rfl, stab0 ?_ ?_⟩) (fun t ht => by cases ht)) (.nil _ _), ?_, by simp [MV.one]⟩
      · have hj : j < us.length := (List.getElem?_eq_some_iff.1 hu).1
        rw [q6 j (by omega)]
        exact hu
      · have hj : j < us.length := (List.getElem?_eq_some_iff.1 hu).1
        have hjf : j < (flat xs).length := by rw [← q3.1]; exact hj
        exact one_cell (q3.2 j _ u (List.getElem?_eq_getElem hjf) hu) (q4 _ (List.getElem_mem hjf))
      · unfold TyM
        rw [hu]
        exact ⟨xs, rfl, q5⟩
  · rename_i fs hu
    simp only [Bool.and_eq_true, List.all_eq_true] at hot
    obtain ⟨xs, n', rfl, rfl, hlen, hxl, hf⟩ := DataW.trod_struct hu h
    have hfld : ∀ f ∈ fs.toList, ∃ (k : Nat) (l : List MV), Rds (g0 W) W l ((cs.drop f.offset).take (P.cellsOf f.type)) ∧ TyM P k f.type l ∧ ∀ y ∈ l, y.one = true := by
      intro f hfm
      obtain ⟨i, hi⟩ := List.getElem?_of_mem hfm
      have hi' : fs[i]? = some f := by simpa using hi
      have hilt : i < xs.length := by rw [hxl]; exact (Array.getElem?_eq_some_iff.1 hi').1
      have htr := hf i f hi'
      rw [List.getElem?_eq_getElem hilt] at htr
      have hsz : SizeOf.sizeOf xs[i].1 < n := by
        have hmem : xs[i].1 ∈ xs.map (·.1) := List.mem_map.2 ⟨xs[i], List.getElem_mem hilt, rfl⟩
        have := List.sizeOf_lt_of_mem hmem
        simp only [DataW.agg.sizeOf_spec] at hx
        omega
      obtain ⟨l, k, h1, h2, h3⟩ := ih _ hsz xs[i] n' f.type _ (Nat.le_refl _) (natMem_iff.1 (hot.1 f hfm)) htr
      exact ⟨k, l, h1, h2, h3⟩
    obtain ⟨K, hK⟩ := common_bound (p := fun k (f : Field) => ∃ l : List MV, Rds (g0 W) W l ((cs.drop f.offset).take (P.cellsOf f.type)) ∧ TyM P k f.type l ∧ ∀ y ∈ l, y.one = true) (fun a b f hab ⟨l, h1, h2, h3⟩ => ⟨l, h1, tyM_le hab h2, h3⟩) fs.toList hfld
    have hcont := hot.2
    have hlens : ∀ (gs : List Field) (off : Nat), contig P (P.cellsOf t) gs off = true → off ≤ P.cellsOf t ∧ ∀ f ∈ gs, f.offset + P.cellsOf f.type ≤ P.cellsOf t := by
      intro gs
      induction gs with
      | nil => exact fun off hc => ⟨Nat.le_of_eq (Nat.eq_of_beq_eq_true hc), fun f hf => by cases hf⟩
      | cons f gs ihg =>
        intro off hc
        simp only [contig, Bool.and_eq_true] at hc
        have ho := Nat.eq_of_beq_eq_true hc.1
        obtain ⟨h1, h2⟩ := ihg _ hc.2
        refine ⟨by omega, fun f' hf' => ?_⟩
        rcases List.mem_cons.1 hf' with rfl | hf'
        · omega
        · exact h2 f' hf'
    obtain ⟨l, h1, h2, h3⟩ := rds_of_fields (P := P) (W := W) (T := TyM P K) hlen fs.toList 0 hcont (fun f hfm => by
      obtain ⟨l, h1, h2, h3⟩ := hK f hfm
      refine ⟨l, h1, h2, ?_, h3⟩
      have := (hlens _ _ hcont).2 f hfm
      rw [← h1.1, List.length_take, List.length_drop, hlen]
      omega)
    refine ⟨l, K + 1, by simpa using h1, ?_, h3⟩
    unfold TyM
    rw [hu]
    exact h2
  · cases hot
end
section
variable {H : Type} {enc : TypeId × Value → H} {P : Program} {W : World} {base b0 : Nat} {spare : Nat → Bool} {held : Bool} {r : Reach}
theorem arg_one {ts : List TypeId} (hok : okTypes P ts = true) {t : TypeId} (ht : t ∈ ts) {v : Value} {d : DataW H} {p : List MemPlace} (hv : v.cells = #[v]) (h : DataW.Trod enc P W base spare held t v d p) :
    ∃ (l : List MV) (m : Nat), Rds (g0 W) W l [v] ∧ TyM P m t l := by
  obtain ⟨fuel, hf⟩ := h
  rw [hv] at hf
  obtain ⟨l, m, h1, h2, _⟩ := reads_gen hok _ _ _ _ _ (Nat.le_refl _) ht hf
  exact ⟨l, m, h1, h2⟩
end
theorem law_calls {P : Program} {f : FuncId} {xs : List MV} {W : World} {vs : List Value} (h : MCalls P f xs [] fun v σ' => v = .bool true ∧ σ' = []) (hr : Rds (g0 W) W xs vs) : Calls P f vs.toArray W fun e w' => e = .returned (.bool true) ∧ Below W.heap.size W w' := by
  refine (callsIn_wide.1 (h (g0 W) W vs (rel0 W) hr)).mono ?_
  rintro e w' ⟨v, rfl, x, σ', g', ⟨rfl, rfl⟩, hrel, hrd, hle⟩
  rw [hrd.inv_bool]
  have := hrel.below
  rw [hle.B, hle.w0] at this
  exact ⟨rfl, this⟩
end Go.MV
end
section
set_option linter.unusedVariables false
set_option linter.unusedSimpArgs false
namespace Go.MV
open Go Go.RowKit Go.WideShapes Go.ChangeShapes
section
variable {H : Type} {enc : TypeId × Value → H} {P : Program} {W : World} {base b0 : Nat} {spare : Nat → Bool} {held : Bool} {r : Reach} {ts : List TypeId} {t : TypeId} {v : Value} {d : DataW H} {p : List MemPlace}
theorem tyM_intK {k : IntKind} (hu : P.underlying t = some (.int k)) {n : Nat} {l : List MV} (h : TyM P n t l) : ∃ v, l = [.int k v] ∧ (Lit.int k v).wf = true := by
  cases n with
  | zero => exact h.elim
  | succ n => unfold TyM at h; rw [hu] at h; exact h
theorem rd_of_rds {g : Gh} {w : World} {m : MV} {v : Value} (h : Rds g w [m] [v]) : Rd g w m v := h.2 0 _ _ rfl rfl
theorem arg_int {k : IntKind} (hok : okTypes P ts = true) (ht : t ∈ ts) (hu : P.underlying t = some (.int k)) (hv : Value.okWide P W r b0 t v) (h : DataW.Trod enc P W base spare held t v d p) : ∃ n, Rd (g0 W) W (.int k n) v ∧ (Lit.int k n).wf = true := by
  obtain ⟨n, rfl⟩ := okWide_int hu hv
  obtain ⟨l, m, h1, h2⟩ := arg_one hok ht rfl h
  obtain ⟨n', rfl, hw⟩ := tyM_intK hu h2
  exact ⟨n', rd_of_rds h1, hw⟩
theorem wf_u8 {n : Int} (h : (Lit.int .u8 n).wf = true) : ∃ m : Nat, n = (m : Int) ∧ m ≤ 255 := by
  simp [Lit.wf, IntKind.min, IntKind.max, IntKind.signed, IntKind.bits] at h
  exact ⟨n.toNat, by omega, by omega⟩
end
end Go.MV
end
section
set_option linter.unusedVariables false
set_option linter.unusedSimpArgs false
set_option maxRecDepth 20000
set_option maxHeartbeats 400000
namespace Go.Proofs.YtnfcnpdpfgcchaaGreat
open Go Go.MV
theorem own_get {S S1 L : MS} {k : Nat} (h : S1.length = S.length) : (S1 ++ L)[S.length + k]? = L[k]? := by rw [← h, getElem?_own]
theorem own_set {S S1 L : MS} {k : Nat} {o : MObj} (h : S1.length = S.length) : (S1 ++ L).set (S.length + k) o = S1 ++ L.set k o := by rw [← h, set_own]
theorem ret_cellK {P : Program} {fn : Func} {S S' L : MS} {R : MV → MS → Prop} {env : Env} {e : Exit} {a t k off : Nat} {l : List MV} {ta : Option Nat} {x y : MV} (hlen : S'.length = S.length) (he : e = .normal ∨ e = .ret) (hres : fn.results = #[.cell a t]) (ha : get env a = some (.ref (S.length + k) off)) (hl : L[k]? = some (.cells l)) (ht : tyAgg P t = some ta) (hm : loadMV ta l off = some x) (hs : Sub x y) (hc : Cl S'.length y) (hS : ClS S') (hR : R y S') : BodyQ P fn S R e env (S' ++ L) := by
 refine ⟨he, [x], y, S', L, ?_, hs, hc, rfl, by omega, .inr hS, hR⟩
 rw [hres]
 exact .cell ha (by rw [own_get hlen]; exact hl) ht hm .nil
end Go.Proofs.YtnfcnpdpfgcchaaGreat
end
