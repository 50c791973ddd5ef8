/-
  Texts on which the proof of StampTells leans: part 5.
-/
import Derived.Test.YtnfcnpdpfgcchaaGreatDoorStampTellsD
import Derived.WalkKit
import Derived.LaidEql
import Derived.RowKitTokens
import Derived.Laws.MakeOwn
section
set_option linter.unusedVariables false
set_option linter.unusedSimpArgs false
set_option maxRecDepth 20000
set_option maxHeartbeats 400000
namespace Go.Proofs.YtnfcnpdpfgcchaaGreatDoor
open Go Go.MV
theorem goP_snoc {F : Sch → Val → Val → Option Val} : ∀ {ins : List Sch} {w1 w2 : List Val} {i : Nat} {acc : List Val} {s : Sch} {x y v : Val}, goP ((ins.take i).map F) w1 w2 = some acc → ins[i]? = some s → w1[i]? = some x → w2[i]? = some y → F s x y = some v → goP ((ins.take (i + 1)).map F) w1 w2 = some (acc ++ [v])
 | [], _, _, _, _, _, _, _, _, _, h, _, _, _ => by simp at h
 | _ :: _, [], _, _, _, _, _, _, _, _, _, h, _, _ => by simp at h
 | _ :: _, _ :: _, [], _, _, _, _, _, _, _, _, _, h, _ => by simp at h
 | s0 :: ins, x0 :: w1, y0 :: w2, 0, acc, s, x, y, v, h, hs, hx, hy, hv => by
  simp only [List.getElem?_cons_zero, Option.some.injEq] at hs hx hy
  subst hs hx hy
  simp [goP] at h
  subst h
  simp [goP, hv]
 | s0 :: ins, x0 :: w1, y0 :: w2, i + 1, acc, s, x, y, v, h, hs, hx, hy, hv => by
  simp only [List.getElem?_cons_succ] at hs hx hy
  rw [List.take_succ_cons, List.map_cons, goP] at h ⊢
  cases hF : F s0 x0 y0 with
  | none => rw [hF] at h; cases h
  | some u =>
   rw [hF] at h
   cases hg : goP ((ins.take i).map F) w1 w2 with
   | none => rw [hg] at h; cases h
   | some l =>
    rw [hg] at h
    simp at h
    subst h
    dsimp only
    rw [goP_snoc hg hs hx hy hv]
    rfl
theorem goP_bad {F : Sch → Val → Val → Option Val} : ∀ {ins : List Sch} {w1 w2 : List Val} {i : Nat} {s : Sch} {x y : Val}, ins[i]? = some s → w1[i]? = some x → w2[i]? = some y → F s x y = none → goP (ins.map F) w1 w2 = none
 | [], _, _, _, _, _, _, h, _, _, _ => by simp at h
 | _ :: _, [], _, _, _, _, _, _, h, _, _ => by simp at h
 | _ :: _, _ :: _, [], _, _, _, _, _, _, h, _ => by simp at h
 | s0 :: ins, x0 :: w1, y0 :: w2, 0, s, x, y, hs, hx, hy, hv => by
  simp only [List.getElem?_cons_zero, Option.some.injEq] at hs hx hy
  subst hs hx hy
  simp [goP, hv]
 | s0 :: ins, x0 :: w1, y0 :: w2, i + 1, s, x, y, hs, hx, hy, hv => by
  simp only [List.getElem?_cons_succ] at hs hx hy
  rw [List.map_cons, goP, goP_bad hs hx hy hv]
  cases F s0 x0 y0 <;> rfl
theorem goP_len {fs : List (Val → Val → Option Val)} : ∀ {w1 w2 : List Val} {l : List Val}, goP fs w1 w2 = some l → l.length ≤ fs.length := by
 induction fs with
 | nil => intro w1 w2 l h; simp [goP] at h; subst h; simp
 | cons f fs ih =>
  intro w1 w2 l h
  cases w1 with
  | nil => simp [goP] at h; subst h; simp
  | cons x w1 =>
   cases w2 with
   | nil => simp [goP] at h; subst h; simp
   | cons y w2 =>
    rw [goP] at h
    cases hf : f x y with
    | none => rw [hf] at h; cases h
    | some v =>
     rw [hf] at h
     cases hg : goP fs w1 w2 with
     | none => rw [hg] at h; cases h
     | some q => rw [hg] at h; simp at h; subst h; have := ih hg; simp; omega
theorem cl_outV {acc : List Val} {t n : Nat} (ht : t < n) : (MObj.cells [.int .u64 0, .int .u64 0, .lst0, .lst0, .lst (some t) 5 (encVs acc)]).cl n := by
 intro x hx
 simp only [List.mem_cons, List.not_mem_nil, or_false] at hx
 rcases hx with rfl | rfl | rfl | rfl | rfl
 ·exact .int _ _
 ·exact .int _ _
 ·exact .lst0
 ·exact .lst0
 ·rw [encVs_eq]; exact cl_lstT ht (fun v => cl_encV n v) (fun v => by cases v; exact .inl rfl)
theorem cap_t {v : Val} (h : largeF v = true) : capF (some v) = none := by simp [capF, h]
theorem cap_f {v : Val} (h : largeF v = false) : capF (some v) = some v := by simp [capF, h]
theorem pairs_specJ (k : Int) (ins : List Sch) (hil : ins.length ≤ 40) (f : Sch → Val → Val → Option Val) (n1 m1 : Int) (s1 : List Bs) (c1 : List (List Tk)) (w1 : List Val) (n2 m2 : Int) (s2 : List Bs) (c2 : List (List Tk)) (w2 : List Val) (hl1 : w1.length = ins.length) (hl2 : w2.length = ins.length) (hb : ∀ (i : Nat) (s : Sch) (x y : Val), ins[i]? = some s → w1[i]? = some x → w2[i]? = some y → ∀ S : MS, MCalls Tryz.prog 31 [encS s, encV x, encV y] S fun v σ' => v = encO (f s x y) ∧ σ' = S) (S : MS) : MCalls Tryz.prog 52 [encS (.mk k ins), encV (.mk n1 m1 s1 c1 w1), encV (.mk n2 m2 s2 c2 w2)] S fun v σ' => v = encO (pairF2 (ins.map f) (.mk n1 m1 s1 c1 w1) (.mk n2 m2 s2 c2 w2)) ∧ σ' = S := by
 refine mcalls_body Tryz.func52 rfl Tryz.ntmps52 (Nat.le_of_ble_eq_true rfl) ?_
 have hlen : ins.length ≤ maxLen := by simp only [maxLen]; omega
 refine mwp_seq <| qR rfl <| qB rfl rfl rfl rfl rfl <| qB rfl rfl rfl rfl rfl <| qB rfl rfl rfl rfl rfl <| qO rfl <| op_alloc' rfl zm30 rfl rfl <| qA rfl rfl rfl <| qN <| mwp_seq <| qR rfl <| qO rfl <| op_alloc' rfl zm30 rfl rfl <| qN <| mwp_seq <| mwp_seq <| qR rfl <| qF rfl rfl rfl fo24_1 <| qL rfl rfl rfl rfl ta22 rfl <| qE rfl rfl Tryz.underlying22 rfl <| qM rfl rfl rfl <| qN ?_
 refine mwp_block <| mwp_cellrowAt 4 4 30 5 rfl rfl (Nat.le_refl _) rfl rfl ?_
 refine mwp_loopKJ (α := Nat × List Val) [(4, _), (5, _), (6, _), (8, _), (14, _), (15, _)] (fun x => [(16, .int .i64 (x.1 : Int))]) (fun x => [.cells (encS (.mk k ins)).cells, .cells (encV (.mk n1 m1 s1 c1 w1)).cells, .cells (encV (.mk n2 m2 s2 c2 w2)).cells, .cells [.int .u64 0, .int .u64 0, .lst0, .lst0, .lst0], .cells [.int .u64 0, .int .u64 0, .lst0, .lst0, .lst (some (S.length + 5)) 5 (encVs x.2)], .row 30 5 x.2.length]) (fun x => x.1 ≤ ins.length ∧ goP ((ins.take x.1).map f) w1 w2 = some x.2) (fun x => ins.length - x.1) (⟨0, []⟩) (Nat.le_refl _) (.keep rfl (.keep rfl (.keep rfl (.keep rfl (.keep rfl (.keep rfl (.nil))))))) (.keep rfl (.nil)) (⟨by simp, by simp [goP]⟩) (rfl) ?_
 rintro ⟨i, acc⟩ ⟨hi, he⟩
 dsimp only at hi he ⊢
 have hal : acc.length ≤ 1000 := by have h1 := goP_len he; rw [List.length_map, List.length_take] at h1; omega
 refine mwp_seq <| qR rfl <| qC rfl rfl rfl rfl rfl <| qN <| mwp_seq ?_
 refine mwp_cond_split rfl (fun h17 => ?_) (fun h17 => ?_)
 ·
  rw [encSs_length] at h17
  have hlt : i < ins.length := by simpa using h17
  obtain ⟨⟨k1, i1⟩, hs⟩ : ∃ q, ins[i]? = some q := ⟨_, List.getElem?_eq_getElem hlt⟩
  obtain ⟨x, hx⟩ : ∃ q, w1[i]? = some q := ⟨_, List.getElem?_eq_getElem (by omega)⟩
  obtain ⟨y, hy⟩ : ∃ q, w2[i]? = some q := ⟨_, List.getElem?_eq_getElem (by omega)⟩
  obtain ⟨xn, xm, xs, xc, xw⟩ := x
  obtain ⟨yn, ym, ys, yc, yw⟩ := y
  refine mwp_skip <| mwp_seq <| mwp_block <| mwp_seq <| qR rfl <| qM rfl rfl rfl <| qO rfl <| op_indexAddr rfl Tryz.underlying22 sz24 (by decide) rfl rfl rfl (encSs_get hs) ?_
  refine qO rfl <| op_load_sptr rfl rfl ta24 rfl <| qO rfl <| op_alloc' rfl zm24 rfl rfl <| qA rfl rfl rfl <| qO rfl <| op_store' rfl rfl rfl rfl sz24 rfl rfl (Nat.le_of_ble_eq_true rfl) rfl <| qN <| mwp_seq ?_
  have hof := hb i _ _ _ hs hx hy
  rcases hf : f (.mk k1 i1) (.mk xn xm xs xc xw) (.mk yn ym ys yc yw) with _ | ⟨⟨n3, m3, s3, c3, w3⟩⟩ <;> rw [hf] at hof
  ·
   refine mwp_draw [15, 16] [_, S ++ [.cells (encS (.mk k ins)).cells, .cells (encV (.mk n1 m1 s1 c1 w1)).cells, .cells (encV (.mk n2 m2 s2 c2 w2)).cells, .cells [.int .u64 0, .int .u64 0, .lst0, .lst0, .lst0], .cells [.int .u64 0, .int .u64 0, .lst0, .lst0, .lst (some (S.length + 5)) 5 ((encVs acc))], .row 30 5 acc.length, .cells (encS (.mk k1 i1)).cells, .cells [.int .u64 0, .int .u64 0, .lst0, .lst0, .lst0]], S ++ [.cells (encS (.mk k ins)).cells, .cells (encV (.mk n1 m1 s1 c1 w1)).cells, .cells (encV (.mk n2 m2 s2 c2 w2)).cells, .cells [.int .u64 0, .int .u64 0, .lst0, .lst0, .lst0], .cells [.int .u64 0, .int .u64 0, .lst0, .lst0, .lst (some (S.length + 5)) 5 ((encVs acc))], .row 30 5 acc.length, .cells (encS (.mk k1 i1)).cells, .cells (encV noV).cells]] mo (by decide) rfl rfl rfl rfl ?_
   refine dOps_op rfl rfl (.cons (op_load' rfl rfl rfl ta24 rfl ⟨rfl, rfl⟩) (.cons (op_load' rfl rfl rfl ta24 rfl ⟨rfl, rfl⟩) (.nil))) <| dOps_op rfl rfl (.cons (op_fieldAddr_ref rfl rfl fo30_4 ⟨rfl, rfl⟩) (.cons (op_fieldAddr_ref rfl rfl fo30_4 ⟨rfl, rfl⟩) (.nil))) <| dOps_op rfl rfl (.cons (op_load' rfl rfl rfl ta28 rfl ⟨rfl, rfl⟩) (.cons (op_load' rfl rfl rfl ta28 rfl ⟨rfl, rfl⟩) (.nil))) <| dOps_op rfl rfl (.cons (op_move rfl rfl ⟨rfl, rfl⟩) (.cons (op_move rfl rfl ⟨rfl, rfl⟩) (.nil))) <| dOps_op rfl rfl (.cons (op_indexAddr rfl Tryz.underlying28 sz30 (by decide) rfl rfl rfl (encVs_get hx) ⟨rfl, rfl⟩) (.cons (op_indexAddr rfl Tryz.underlying28 sz30 (by decide) rfl rfl rfl (encVs_get hx) ⟨rfl, rfl⟩) (.nil))) ?_
   refine dOps_op rfl rfl (.cons (op_load_sptr rfl rfl ta30 rfl ⟨rfl, rfl⟩) (.cons (op_load_sptr rfl rfl ta30 rfl ⟨rfl, rfl⟩) (.nil))) <| dOps_op rfl rfl (.cons (op_fieldAddr_ref rfl rfl fo30_4 ⟨rfl, rfl⟩) (.cons (op_fieldAddr_ref rfl rfl fo30_4 ⟨rfl, rfl⟩) (.nil))) <| dOps_op rfl rfl (.cons (op_load' rfl rfl rfl ta28 rfl ⟨rfl, rfl⟩) (.cons (op_load' rfl rfl rfl ta28 rfl ⟨rfl, rfl⟩) (.nil))) <| dOps_op rfl rfl (.cons (op_move rfl rfl ⟨rfl, rfl⟩) (.cons (op_move rfl rfl ⟨rfl, rfl⟩) (.nil))) <| dOps_op rfl rfl (.cons (op_indexAddr rfl Tryz.underlying28 sz30 (by decide) rfl rfl rfl (encVs_get hy) ⟨rfl, rfl⟩) (.cons (op_indexAddr rfl Tryz.underlying28 sz30 (by decide) rfl rfl rfl (encVs_get hy) ⟨rfl, rfl⟩) (.nil))) ?_
   refine dOps_op rfl rfl (.cons (op_load_sptr rfl rfl ta30 rfl ⟨rfl, rfl⟩) (.cons (op_load_sptr rfl rfl ta30 rfl ⟨rfl, rfl⟩) (.nil))) <| dOps_op rfl rfl (.cons (op_call rfl rfl rfl co31 (hof _)) (.cons (op_call rfl rfl rfl co31 (hof _)) (.nil))) <| dOps_op rfl rfl (.cons (op_move rfl rfl ⟨rfl, rfl⟩) (.cons (op_move rfl rfl ⟨rfl, rfl⟩) (.nil))) <| dOps_op rfl rfl (.cons (op_extract rfl rfl rfl ⟨rfl, rfl⟩) (.cons (op_extract rfl rfl rfl ⟨rfl, rfl⟩) (.nil))) <| dOps_op rfl rfl (.cons (op_extract rfl rfl rfl ⟨rfl, rfl⟩) (.cons (op_extract rfl rfl rfl ⟨rfl, rfl⟩) (.cons (op_extract rfl rfl rfl ⟨rfl, rfl⟩) (.nil)))) <| dOps_eff rfl rfl rfl rfl (op_alloc' rfl zm30 rfl rfl ⟨rfl, rfl⟩) <| dOps_eff rfl rfl rfl rfl (op_store' rfl rfl rfl rfl sz30 rfl rfl (Nat.le_of_ble_eq_true rfl) rfl ⟨rfl, rfl⟩) <| dO rfl rfl rfl (op_assign rfl rfl ⟨rfl, rfl⟩) <| dOps_nil <| mwp_seq <| mwp_seq <| qR rfl <| qM rfl rfl rfl <| qO rfl <| op_ifnil rfl Tryz.underlying33 rfl rfl (.inr ⟨rfl, rfl⟩) <| qN <| mwp_cond_t rfl (rfl) <| mwp_seq <| qR rfl <| qO rfl <| op_build rfl Tryz.underlying30 zm30 .nil (by kernel_rfl) ?_
   refine qM rfl rfl rfl <| qO rfl <| op_store' rfl rfl rfl rfl sz30 rfl rfl (Nat.le_of_ble_eq_true rfl) rfl <| qA rfl rfl rfl <| qN <| mwp_ret ?_
   exact ret_cell_tmp (.inr rfl) Tryz.results52 rfl rfl ta30 rfl (.agg (.cons (.refl _) (.cons (.refl _) (.cons (.nil 1) (.cons (.nil 1) (.cons (.nil 5) .nil)))))) (cl_encV _ (noV)) rfl (.refl _) (.iface _ _ (.int _ _)) ⟨by rw [show pairF2 (ins.map f) (.mk n1 m1 s1 c1 w1) (.mk n2 m2 s2 c2 w2) = none from by rw [pairF2]; show (goP (ins.map f) w1 w2).map _ = none; rw [goP_bad hs hx hy hf]; rfl]; rfl, rfl⟩
  ·
   refine mwp_draw [15, 16] [_, S ++ [.cells (encS (.mk k ins)).cells, .cells (encV (.mk n1 m1 s1 c1 w1)).cells, .cells (encV (.mk n2 m2 s2 c2 w2)).cells, .cells [.int .u64 0, .int .u64 0, .lst0, .lst0, .lst0], .cells [.int .u64 0, .int .u64 0, .lst0, .lst0, .lst (some (S.length + 5)) 5 ((encVs acc))], .row 30 5 acc.length, .cells (encS (.mk k1 i1)).cells, .cells [.int .u64 0, .int .u64 0, .lst0, .lst0, .lst0]], S ++ [.cells (encS (.mk k ins)).cells, .cells (encV (.mk n1 m1 s1 c1 w1)).cells, .cells (encV (.mk n2 m2 s2 c2 w2)).cells, .cells [.int .u64 0, .int .u64 0, .lst0, .lst0, .lst0], .cells [.int .u64 0, .int .u64 0, .lst0, .lst0, .lst (some (S.length + 5)) 5 ((encVs acc))], .row 30 5 acc.length, .cells (encS (.mk k1 i1)).cells, .cells (encV (.mk n3 m3 s3 c3 w3)).cells]] mo (by decide) rfl rfl rfl rfl ?_
   refine dOps_op rfl rfl (.cons (op_load' rfl rfl rfl ta24 rfl ⟨rfl, rfl⟩) (.cons (op_load' rfl rfl rfl ta24 rfl ⟨rfl, rfl⟩) (.nil))) <| dOps_op rfl rfl (.cons (op_fieldAddr_ref rfl rfl fo30_4 ⟨rfl, rfl⟩) (.cons (op_fieldAddr_ref rfl rfl fo30_4 ⟨rfl, rfl⟩) (.nil))) <| dOps_op rfl rfl (.cons (op_load' rfl rfl rfl ta28 rfl ⟨rfl, rfl⟩) (.cons (op_load' rfl rfl rfl ta28 rfl ⟨rfl, rfl⟩) (.nil))) <| dOps_op rfl rfl (.cons (op_move rfl rfl ⟨rfl, rfl⟩) (.cons (op_move rfl rfl ⟨rfl, rfl⟩) (.nil))) <| dOps_op rfl rfl (.cons (op_indexAddr rfl Tryz.underlying28 sz30 (by decide) rfl rfl rfl (encVs_get hx) ⟨rfl, rfl⟩) (.cons (op_indexAddr rfl Tryz.underlying28 sz30 (by decide) rfl rfl rfl (encVs_get hx) ⟨rfl, rfl⟩) (.nil))) ?_
   refine dOps_op rfl rfl (.cons (op_load_sptr rfl rfl ta30 rfl ⟨rfl, rfl⟩) (.cons (op_load_sptr rfl rfl ta30 rfl ⟨rfl, rfl⟩) (.nil))) <| dOps_op rfl rfl (.cons (op_fieldAddr_ref rfl rfl fo30_4 ⟨rfl, rfl⟩) (.cons (op_fieldAddr_ref rfl rfl fo30_4 ⟨rfl, rfl⟩) (.nil))) <| dOps_op rfl rfl (.cons (op_load' rfl rfl rfl ta28 rfl ⟨rfl, rfl⟩) (.cons (op_load' rfl rfl rfl ta28 rfl ⟨rfl, rfl⟩) (.nil))) <| dOps_op rfl rfl (.cons (op_move rfl rfl ⟨rfl, rfl⟩) (.cons (op_move rfl rfl ⟨rfl, rfl⟩) (.nil))) <| dOps_op rfl rfl (.cons (op_indexAddr rfl Tryz.underlying28 sz30 (by decide) rfl rfl rfl (encVs_get hy) ⟨rfl, rfl⟩) (.cons (op_indexAddr rfl Tryz.underlying28 sz30 (by decide) rfl rfl rfl (encVs_get hy) ⟨rfl, rfl⟩) (.nil))) ?_
   refine dOps_op rfl rfl (.cons (op_load_sptr rfl rfl ta30 rfl ⟨rfl, rfl⟩) (.cons (op_load_sptr rfl rfl ta30 rfl ⟨rfl, rfl⟩) (.nil))) <| dOps_op rfl rfl (.cons (op_call rfl rfl rfl co31 (hof _)) (.cons (op_call rfl rfl rfl co31 (hof _)) (.nil))) <| dOps_op rfl rfl (.cons (op_move rfl rfl ⟨rfl, rfl⟩) (.cons (op_move rfl rfl ⟨rfl, rfl⟩) (.nil))) <| dOps_op rfl rfl (.cons (op_extract rfl rfl rfl ⟨rfl, rfl⟩) (.cons (op_extract rfl rfl rfl ⟨rfl, rfl⟩) (.nil))) <| dOps_op rfl rfl (.cons (op_extract rfl rfl rfl ⟨rfl, rfl⟩) (.cons (op_extract rfl rfl rfl ⟨rfl, rfl⟩) (.cons (op_extract rfl rfl rfl ⟨rfl, rfl⟩) (.nil)))) <| dOps_eff rfl rfl rfl rfl (op_alloc' rfl zm30 rfl rfl ⟨rfl, rfl⟩) <| dOps_eff rfl rfl rfl rfl (op_store' rfl rfl rfl rfl sz30 rfl rfl (Nat.le_of_ble_eq_true rfl) rfl ⟨rfl, rfl⟩) <| dO rfl rfl rfl (op_assign rfl rfl ⟨rfl, rfl⟩) <| dOps_nil <| mwp_seq <| mwp_seq <| qR rfl <| qM rfl rfl rfl <| qO rfl <| op_if0 rfl Tryz.underlying33 rfl rfl (.inr ⟨rfl, rfl⟩) <| qN <| mwp_cond_f rfl (rfl) <| mwp_skip <| qR rfl <| qF rfl rfl rfl fo30_4 <| qL rfl rfl rfl rfl ta28 rfl <| qL rfl rfl rfl rfl ta30 rfl <| qO rfl <| op_buildSlice rfl Tryz.underlying28 el30 rfl rfl (by decide) (by decide) rfl rfl ?_
   refine qO rfl <| op_append' rfl Tryz.underlying28 el30 rfl rfl rfl (by simp [encVs_length]) (by simp [encVs_length]; omega) (by simp [encVs_length]; omega) rfl ?_
   refine qF rfl rfl rfl fo30_4 <| qO rfl <| op_store' rfl rfl rfl rfl sz28 rfl rfl (Nat.le_of_ble_eq_true rfl) rfl <| qN <| qR rfl <| qO rfl <| op_arith rfl rfl rfl rfl <| qM rfl rfl rfl <| qN ?_
   refine ⟨⟨i + 1, acc ++ [.mk n3 m3 s3 c3 w3]⟩, _, by dsimp only; omega, ⟨by dsimp only; omega, goP_snoc he hs hx hy hf⟩, by simp only [encVs_append, List.length_append]; rfl, .same (.same (.same (.same (.new (cl_outV (by simp)) (.new trivial .nil))))), (.old rfl rfl (.old rfl rfl (.old rfl rfl (.old rfl rfl (.old rfl rfl (.old rfl rfl (.nil))))))), (.new' rfl (int_succ hlt hlen) (.int _ _) (.nil))⟩
 ·
  rw [encSs_length] at h17
  have hge : i = ins.length := by simp at h17; omega
  refine mwp_exit <| mwp_seq <| qR rfl <| qL rfl rfl rfl rfl ta30 rfl <| qO rfl <| op_store' rfl rfl rfl rfl sz30 rfl rfl (Nat.le_of_ble_eq_true rfl) rfl <| qA rfl rfl rfl <| qN <| mwp_ret ?_
  exact ret_cell_tmp (.inr rfl) Tryz.results52 rfl rfl ta30 rfl (.agg (.cons (.refl _) (.cons (.refl _) (.cons (.nil 1) (.cons (.nil 1) (.cons (.view _ _ _) .nil)))))) (cl_encV _ (.mk 0 0 [] [] acc)) rfl (.refl _) (.iface0) ⟨by rw [show pairF2 (ins.map f) (.mk n1 m1 s1 c1 w1) (.mk n2 m2 s2 c2 w2) = some _ from by rw [pairF2]; show (goP (ins.map f) w1 w2).map _ = _; rw [hge, List.take_length] at he; rw [he]; rfl]; rfl, rfl⟩
end Go.Proofs.YtnfcnpdpfgcchaaGreatDoor
end
section
set_option linter.unusedVariables false
set_option linter.unusedSimpArgs false
set_option maxRecDepth 20000
set_option maxHeartbeats 400000
namespace Go.Proofs.YtnfcnpdpfgcchaaGreatDoor
open Go Go.MV
theorem max_if (a b : Int) : (if b > a then b else a) = max a b := by split <;> omega
theorem isV3 {ins : List Sch} {n m : Int} {s : List Bs} {c : List (List Tk)} {w : List Val} (h : isVF (.mk 3 ins) (.mk n m s c w) = true) : s.length ≤ 40 := by
 rw [isVF_mk 3] at h; simp [isRowF] at h; omega
theorem isV4 {t : Sch} {n m : Int} {s : List Bs} {c : List (List Tk)} {w : List Val} (h : isVF (.mk 4 [t]) (.mk n m s c w) = true) : s.length ≤ 40 ∧ s.length = w.length ∧ ∀ x ∈ w, isVF t x = true := by
 rw [isVF_mk 4] at h
 simp only [Int.reduceEq, if_false, if_true, isVL, List.headD_cons, Bool.and_eq_true, decide_eq_true_eq, List.all_eq_true, isRowF] at h
 exact ⟨h.2.1.1.1.1, h.2.1.2, fun x hx => (h.2.2 x hx).1⟩
theorem isV5 {t u : Sch} {n m : Int} {s : List Bs} {c : List (List Tk)} {w : List Val} (h : isVF (.mk 5 [t, u]) (.mk n m s c w) = true) : ∃ x y, w = [x, y] ∧ isVF t x = true ∧ isVF u y = true := by
 rw [isVF_mk 5] at h
 match w, h with
 | [], h => simp at h
 | [_], h => simp at h
 | [x, y], h => exact ⟨x, y, rfl, by simp [isVL] at h; exact h.2⟩
 | _ :: _ :: _ :: _, h => simp at h
theorem isV7 {ins : List Sch} {n m : Int} {s : List Bs} {c : List (List Tk)} {w : List Val} (h : isVF (.mk 7 ins) (.mk n m s c w) = true) : ∀ x ∈ c, x.length ≤ 40 := by
 rw [isVF_mk 7] at h
 match c, h with
 | [], _ => simp
 | [x], h => simp [isClockF] at h; simp; omega
 | _ :: _ :: _, h => simp at h
theorem isV8 {t : Sch} {n m : Int} {s : List Bs} {c : List (List Tk)} {w : List Val} (h : isVF (.mk 8 [t]) (.mk n m s c w) = true) : c.length ≤ 40 ∧ c.length = w.length ∧ (∀ x ∈ c, x.length ≤ 40) ∧ ∀ x ∈ w, isVF t x = true := by
 rw [isVF_mk 8] at h
 simp only [Int.reduceEq, if_false, isVL, List.headD_cons, Bool.and_eq_true, decide_eq_true_eq, List.all_eq_true, isCauseF, isClockF] at h
 refine ⟨h.1.2, h.2.1.1, fun x hx => ?_, fun x hx => h.2.2 x hx⟩
 have := h.2.1.2.1 x hx
 omega
theorem both_spec (d : Nat) : ∀ (t : Sch), isF d t = true → ∀ (a b : Val), isVF t a = true → isVF t b = true → ∀ S : MS, MCalls Tryz.prog 31 [encS t, encV a, encV b] S fun v σ' => v = encO (bothF t a b) ∧ σ' = S := by
 induction d with
 | zero => intro s h; simp [isF] at h
 | succ d ih =>
 rintro ⟨k, ins⟩ hd ⟨n1, m1, s1, c1, w1⟩ ⟨n2, m2, s2, c2, w2⟩ ha hb S
 rw [isF] at hd
 simp only [Bool.and_eq_true, List.all_eq_true, beq_iff_eq] at hd
 rcases k8_of hd.1 with rfl | rfl | rfl | rfl | rfl | rfl | rfl | rfl
 ·
  have hB : bothB 1 (bothL ins) (.mk n1 m1 s1 c1 w1) (.mk n2 m2 s2 c2 w2) = some (.mk (max n1 n2) 0 [] [] []) := rfl
  refine mcalls_body Tryz.func31 rfl Tryz.ntmps31 (Nat.le_of_ble_eq_true rfl) ?_
  refine mwp_seq <| qR rfl <| qB rfl rfl rfl rfl rfl <| qB rfl rfl rfl rfl rfl <| qB rfl rfl rfl rfl rfl <| qO rfl <| op_alloc' rfl zm30 rfl rfl <| qA rfl rfl rfl <| qN <| mwp_seq <| mwp_seq <| qR rfl <| qF rfl rfl rfl fo24_0 <| qL rfl rfl rfl rfl ta3 rfl <| qN <| mwp_block <| mwp_seq <| mwp_seq <| qR rfl <| qC rfl rfl rfl rfl rfl <| qA rfl rfl rfl <| qN ?_
  refine mwp_cond_t rfl (rfl) <| mwp_skip <| mwp_cond_t rfl (rfl) <| qR rfl <| qF rfl rfl rfl fo30_0 <| qL rfl rfl rfl rfl ta25 rfl <| qF rfl rfl rfl fo30_0 <| qL rfl rfl rfl rfl ta25 rfl <| qO rfl <| op_max2' rfl rfl rfl (max_if n1 n2) <| qF rfl rfl rfl fo30_0 <| qO rfl <| op_store' rfl rfl rfl rfl sz25 rfl rfl (Nat.le_of_ble_eq_true rfl) rfl <| qN <| mwp_seq <| mwp_seq <| qR rfl <| qM rfl rfl rfl <| qO rfl <| op_if0 rfl Tryz.underlying33 rfl rfl (.inl ⟨rfl, rfl⟩) <| qM rfl rfl rfl <| qO rfl <| op_viewTo (y := encV (.mk (max n1 n2) 0 [] [] [])) (op_load' rfl rfl rfl ta30 rfl ⟨rfl, rfl⟩) (.agg (.cons (.refl _) (.cons (.refl _) (.cons (.nil 1) (.cons (.nil 1) (.cons (.nil 5) .nil)))))) ?_
  refine wOps_op rfl (op_call rfl rfl rfl co56 ((isLarge_spec (max n1 n2) 0 [] [] [] _).mono ?_))
  rintro _ _ ⟨rfl, rfl⟩
  refine qP rfl rfl rfl rfl <| qN ?_
  refine mwp_cond_split rfl (fun h69 => ?_) (fun h69 => ?_)
  ·
   refine qR rfl <| qO rfl <| op_makeInterface rfl rfl Tryz.underlying62 (by simp) ?_
   refine qA rfl rfl rfl <| qN <| mwp_seq <| mwp_seq <| qR rfl <| qM rfl rfl rfl <| qO rfl <| op_ifnil rfl Tryz.underlying33 rfl rfl (.inr ⟨rfl, rfl⟩) <| qN <| mwp_cond_t rfl (rfl) <| mwp_seq <| qR rfl <| qO rfl <| op_build rfl Tryz.underlying30 zm30 .nil (by kernel_rfl) ?_
   refine qM rfl rfl rfl <| qO rfl <| op_store' rfl rfl rfl rfl sz30 rfl rfl (Nat.le_of_ble_eq_true rfl) rfl <| qA rfl rfl rfl <| qN <| mwp_ret ?_
   exact ret_cell_tmp (.inr rfl) Tryz.results31 rfl rfl ta30 rfl (.agg (.cons (.refl _) (.cons (.refl _) (.cons (.nil 1) (.cons (.nil 1) (.cons (.nil 5) .nil)))))) (cl_encV _ (noV)) rfl (.refl _) (.iface _ _ (.int _ _)) ⟨by rw [bothF_mk, hB, cap_t h69]; rfl, rfl⟩
  ·
   refine mwp_skip <| mwp_seq <| mwp_seq <| qR rfl <| qM rfl rfl rfl <| qO rfl <| op_if0 rfl Tryz.underlying33 rfl rfl (.inr ⟨rfl, rfl⟩) <| qN <| mwp_cond_f rfl (rfl) <| mwp_skip <| mwp_seq <| qR rfl <| qO rfl <| op_viewTo (y := encV (.mk (max n1 n2) 0 [] [] [])) (op_load' rfl rfl rfl ta30 rfl ⟨rfl, rfl⟩) (.agg (.cons (.refl _) (.cons (.refl _) (.cons (.nil 1) (.cons (.nil 1) (.cons (.nil 5) .nil)))))) <| qO rfl <| op_store' rfl rfl rfl rfl sz30 rfl rfl (Nat.le_of_ble_eq_true rfl) rfl <| qA rfl rfl rfl <| qN <| mwp_ret ?_
   exact ret_cell_tmp (.inr rfl) Tryz.results31 rfl rfl ta30 rfl (.refl _) (cl_encV _ (.mk (max n1 n2) 0 [] [] [])) rfl (.refl _) (.iface0) ⟨by rw [bothF_mk, hB, cap_f h69]; rfl, rfl⟩
 ·
  have hB : bothB 2 (bothL ins) (.mk n1 m1 s1 c1 w1) (.mk n2 m2 s2 c2 w2) = some (.mk (max n1 n2) 0 [] [] []) := rfl
  refine mcalls_body Tryz.func31 rfl Tryz.ntmps31 (Nat.le_of_ble_eq_true rfl) ?_
  refine mwp_seq <| qR rfl <| qB rfl rfl rfl rfl rfl <| qB rfl rfl rfl rfl rfl <| qB rfl rfl rfl rfl rfl <| qO rfl <| op_alloc' rfl zm30 rfl rfl <| qA rfl rfl rfl <| qN <| mwp_seq <| mwp_seq <| qR rfl <| qF rfl rfl rfl fo24_0 <| qL rfl rfl rfl rfl ta3 rfl <| qN <| mwp_block <| mwp_seq <| mwp_seq <| qR rfl <| qC rfl rfl rfl rfl rfl <| qA rfl rfl rfl <| qN ?_
  refine mwp_cond_f rfl (rfl) <| qR rfl <| qC rfl rfl rfl rfl rfl <| qA rfl rfl rfl <| qN <| mwp_cond_t rfl (rfl) <| qR rfl <| qF rfl rfl rfl fo30_0 <| qL rfl rfl rfl rfl ta25 rfl <| qF rfl rfl rfl fo30_0 <| qL rfl rfl rfl rfl ta25 rfl <| qO rfl <| op_max2' rfl rfl rfl (max_if n1 n2) <| qF rfl rfl rfl fo30_0 <| qO rfl <| op_store' rfl rfl rfl rfl sz25 rfl rfl (Nat.le_of_ble_eq_true rfl) rfl <| qN <| mwp_seq <| mwp_seq <| qR rfl <| qM rfl rfl rfl <| qO rfl <| op_if0 rfl Tryz.underlying33 rfl rfl (.inl ⟨rfl, rfl⟩) ?_
  refine qM rfl rfl rfl <| qO rfl <| op_viewTo (y := encV (.mk (max n1 n2) 0 [] [] [])) (op_load' rfl rfl rfl ta30 rfl ⟨rfl, rfl⟩) (.agg (.cons (.refl _) (.cons (.refl _) (.cons (.nil 1) (.cons (.nil 1) (.cons (.nil 5) .nil)))))) ?_
  refine wOps_op rfl (op_call rfl rfl rfl co56 ((isLarge_spec (max n1 n2) 0 [] [] [] _).mono ?_))
  rintro _ _ ⟨rfl, rfl⟩
  refine qP rfl rfl rfl rfl <| qN ?_
  refine mwp_cond_split rfl (fun h69 => ?_) (fun h69 => ?_)
  ·
   refine qR rfl <| qO rfl <| op_makeInterface rfl rfl Tryz.underlying62 (by simp) ?_
   refine qA rfl rfl rfl <| qN <| mwp_seq <| mwp_seq <| qR rfl <| qM rfl rfl rfl <| qO rfl <| op_ifnil rfl Tryz.underlying33 rfl rfl (.inr ⟨rfl, rfl⟩) <| qN <| mwp_cond_t rfl (rfl) <| mwp_seq <| qR rfl <| qO rfl <| op_build rfl Tryz.underlying30 zm30 .nil (by kernel_rfl) ?_
   refine qM rfl rfl rfl <| qO rfl <| op_store' rfl rfl rfl rfl sz30 rfl rfl (Nat.le_of_ble_eq_true rfl) rfl <| qA rfl rfl rfl <| qN <| mwp_ret ?_
   exact ret_cell_tmp (.inr rfl) Tryz.results31 rfl rfl ta30 rfl (.agg (.cons (.refl _) (.cons (.refl _) (.cons (.nil 1) (.cons (.nil 1) (.cons (.nil 5) .nil)))))) (cl_encV _ (noV)) rfl (.refl _) (.iface _ _ (.int _ _)) ⟨by rw [bothF_mk, hB, cap_t h69]; rfl, rfl⟩
  ·
   refine mwp_skip <| mwp_seq <| mwp_seq <| qR rfl <| qM rfl rfl rfl <| qO rfl <| op_if0 rfl Tryz.underlying33 rfl rfl (.inr ⟨rfl, rfl⟩) <| qN <| mwp_cond_f rfl (rfl) <| mwp_skip <| mwp_seq <| qR rfl <| qO rfl <| op_viewTo (y := encV (.mk (max n1 n2) 0 [] [] [])) (op_load' rfl rfl rfl ta30 rfl ⟨rfl, rfl⟩) (.agg (.cons (.refl _) (.cons (.refl _) (.cons (.nil 1) (.cons (.nil 1) (.cons (.nil 5) .nil)))))) <| qO rfl <| op_store' rfl rfl rfl rfl sz30 rfl rfl (Nat.le_of_ble_eq_true rfl) rfl <| qA rfl rfl rfl <| qN <| mwp_ret ?_
   exact ret_cell_tmp (.inr rfl) Tryz.results31 rfl rfl ta30 rfl (.refl _) (cl_encV _ (.mk (max n1 n2) 0 [] [] [])) rfl (.refl _) (.iface0) ⟨by rw [bothF_mk, hB, cap_f h69]; rfl, rfl⟩
 ·
  have b1 := isV3 ha
  have b2 := isV3 hb
  have hB : bothB 3 (bothL ins) (.mk n1 m1 s1 c1 w1) (.mk n2 m2 s2 c2 w2) = some (.mk 0 0 (bothX s1 s2) [] []) := rfl
  refine mcalls_body Tryz.func31 rfl Tryz.ntmps31 (Nat.le_of_ble_eq_true rfl) ?_
  refine mwp_seq <| qR rfl <| qB rfl rfl rfl rfl rfl <| qB rfl rfl rfl rfl rfl <| qB rfl rfl rfl rfl rfl <| qO rfl <| op_alloc' rfl zm30 rfl rfl <| qA rfl rfl rfl <| qN <| mwp_seq <| mwp_seq <| qR rfl <| qF rfl rfl rfl fo24_0 <| qL rfl rfl rfl rfl ta3 rfl <| qN <| mwp_block <| mwp_seq <| mwp_seq <| qR rfl <| qC rfl rfl rfl rfl rfl <| qA rfl rfl rfl <| qN ?_
  refine mwp_cond_f rfl (rfl) <| qR rfl <| qC rfl rfl rfl rfl rfl <| qA rfl rfl rfl <| qN <| mwp_cond_f rfl (rfl) <| mwp_seq <| qR rfl <| qC rfl rfl rfl rfl rfl <| qA rfl rfl rfl <| qN <| mwp_cond_t rfl (rfl) <| qR rfl <| qF rfl rfl rfl fo30_2 <| qL rfl rfl rfl rfl ta26 rfl <| qF rfl rfl rfl fo30_2 <| qL rfl rfl rfl rfl ta26 rfl ?_
  refine wOps_op rfl (op_call rfl rfl rfl co50 ((rowsBoth_spec s1 s2 (by omega) _).mono ?_))
  rintro _ _ ⟨rfl, rfl⟩
  refine qF rfl rfl rfl fo30_2 <| qO rfl <| op_store' rfl rfl rfl rfl sz26 rfl rfl (Nat.le_of_ble_eq_true rfl) rfl <| qN <| mwp_seq <| mwp_seq <| qR rfl <| qM rfl rfl rfl <| qO rfl <| op_if0 rfl Tryz.underlying33 rfl rfl (.inl ⟨rfl, rfl⟩) <| qM rfl rfl rfl <| qO rfl <| op_viewTo (y := encV (.mk 0 0 (bothX s1 s2) [] [])) (op_load' rfl rfl rfl ta30 rfl ⟨rfl, rfl⟩) (.agg (.cons (.refl _) (.cons (.refl _) (.cons (.refl _) (.cons (.nil 1) (.cons (.nil 5) .nil)))))) ?_
  refine wOps_op rfl (op_call rfl rfl rfl co56 ((isLarge_spec 0 0 (bothX s1 s2) [] [] _).mono ?_))
  rintro _ _ ⟨rfl, rfl⟩
  refine qP rfl rfl rfl rfl <| qN ?_
  refine mwp_cond_split rfl (fun h69 => ?_) (fun h69 => ?_)
  ·
   refine qR rfl <| qO rfl <| op_makeInterface rfl rfl Tryz.underlying62 (by simp) ?_
   refine qA rfl rfl rfl <| qN <| mwp_seq <| mwp_seq <| qR rfl <| qM rfl rfl rfl <| qO rfl <| op_ifnil rfl Tryz.underlying33 rfl rfl (.inr ⟨rfl, rfl⟩) <| qN <| mwp_cond_t rfl (rfl) <| mwp_seq <| qR rfl <| qO rfl <| op_build rfl Tryz.underlying30 zm30 .nil (by kernel_rfl) ?_
   refine qM rfl rfl rfl <| qO rfl <| op_store' rfl rfl rfl rfl sz30 rfl rfl (Nat.le_of_ble_eq_true rfl) rfl <| qA rfl rfl rfl <| qN <| mwp_ret ?_
   exact ret_cell_tmp (.inr rfl) Tryz.results31 rfl rfl ta30 rfl (.agg (.cons (.refl _) (.cons (.refl _) (.cons (.nil 1) (.cons (.nil 1) (.cons (.nil 5) .nil)))))) (cl_encV _ (noV)) rfl (.refl _) (.iface _ _ (.int _ _)) ⟨by rw [bothF_mk, hB, cap_t h69]; rfl, rfl⟩
  ·
   refine mwp_skip <| mwp_seq <| mwp_seq <| qR rfl <| qM rfl rfl rfl <| qO rfl <| op_if0 rfl Tryz.underlying33 rfl rfl (.inr ⟨rfl, rfl⟩) <| qN <| mwp_cond_f rfl (rfl) <| mwp_skip <| mwp_seq <| qR rfl <| qO rfl <| op_viewTo (y := encV (.mk 0 0 (bothX s1 s2) [] [])) (op_load' rfl rfl rfl ta30 rfl ⟨rfl, rfl⟩) (.agg (.cons (.refl _) (.cons (.refl _) (.cons (.refl _) (.cons (.nil 1) (.cons (.nil 5) .nil)))))) <| qO rfl <| op_store' rfl rfl rfl rfl sz30 rfl rfl (Nat.le_of_ble_eq_true rfl) rfl <| qA rfl rfl rfl <| qN <| mwp_ret ?_
   exact ret_cell_tmp (.inr rfl) Tryz.results31 rfl rfl ta30 rfl (.refl _) (cl_encV _ (.mk 0 0 (bothX s1 s2) [] [])) rfl (.refl _) (.iface0) ⟨by rw [bothF_mk, hB, cap_f h69]; rfl, rfl⟩
 ·
  obtain ⟨⟨k1, i1⟩, rfl⟩ := one_ins hd.1 (by decide)
  have ih1 := ih (.mk k1 i1) (hd.2 _ (by simp))
  obtain ⟨p1, p2, p3⟩ := isV4 ha
  obtain ⟨q1, q2, q3⟩ := isV4 hb
  have hof := maps_spec 4 k1 i1 [] (bothF (.mk k1 i1)) n1 m1 s1 c1 w1 n2 m2 s2 c2 w2 p2 q2 p1 q1 (fun x hx y hy => ih1 x y (p3 x hx) (q3 y hy))
  have hBq : bothB 4 (bothL [.mk k1 i1]) (.mk n1 m1 s1 c1 w1) (.mk n2 m2 s2 c2 w2) = mapsF (bothF (.mk k1 i1)) (.mk n1 m1 s1 c1 w1) (.mk n2 m2 s2 c2 w2) := rfl
  rcases hO : mapsF (bothF (.mk k1 i1)) (.mk n1 m1 s1 c1 w1) (.mk n2 m2 s2 c2 w2) with _ | ⟨⟨n3, m3, s3, c3, w3⟩⟩ <;> rw [hO] at hof hBq
  ·
   refine mcalls_body Tryz.func31 rfl Tryz.ntmps31 (Nat.le_of_ble_eq_true rfl) ?_
   refine mwp_seq <| qR rfl <| qB rfl rfl rfl rfl rfl <| qB rfl rfl rfl rfl rfl <| qB rfl rfl rfl rfl rfl <| qO rfl <| op_alloc' rfl zm30 rfl rfl <| qA rfl rfl rfl <| qN <| mwp_seq <| mwp_seq <| qR rfl <| qF rfl rfl rfl fo24_0 <| qL rfl rfl rfl rfl ta3 rfl <| qN <| mwp_block <| mwp_seq <| mwp_seq <| qR rfl <| qC rfl rfl rfl rfl rfl <| qA rfl rfl rfl <| qN ?_
   refine mwp_cond_f rfl (rfl) <| qR rfl <| qC rfl rfl rfl rfl rfl <| qA rfl rfl rfl <| qN <| mwp_cond_f rfl (rfl) <| mwp_seq <| qR rfl <| qC rfl rfl rfl rfl rfl <| qA rfl rfl rfl <| qN <| mwp_cond_f rfl (rfl) <| mwp_seq <| qR rfl <| qC rfl rfl rfl rfl rfl <| qA rfl rfl rfl <| qN <| mwp_cond_t rfl (rfl) <| qR rfl <| qL rfl rfl rfl rfl ta24 rfl <| qL rfl rfl rfl rfl ta30 rfl <| qL rfl rfl rfl rfl ta30 rfl ?_
   refine wOps_op rfl (op_call rfl rfl rfl co51 ((hof _).mono ?_))
   rintro _ _ ⟨rfl, rfl⟩
   refine qM rfl rfl rfl <| qO rfl <| op_extract rfl rfl rfl <| qO rfl <| op_extract rfl rfl rfl <| qO rfl <| op_store' rfl rfl rfl rfl sz30 rfl rfl (Nat.le_of_ble_eq_true rfl) rfl <| qA rfl rfl rfl <| qN <| mwp_seq <| mwp_seq <| qR rfl <| qM rfl rfl rfl <| qO rfl <| op_ifnil rfl Tryz.underlying33 rfl rfl (.inl ⟨rfl, rfl⟩) <| qM rfl rfl rfl <| qS rfl <| qS rfl <| qP rfl rfl rfl rfl <| qN <| mwp_cond_f rfl (rfl) <| mwp_skip <| mwp_seq <| mwp_seq <| qR rfl ?_
   refine qM rfl rfl rfl <| qO rfl <| op_ifnil rfl Tryz.underlying33 rfl rfl (.inr ⟨rfl, rfl⟩) <| qN <| mwp_cond_t rfl (rfl) <| mwp_seq <| qR rfl <| qO rfl <| op_build rfl Tryz.underlying30 zm30 .nil (by kernel_rfl) ?_
   refine qM rfl rfl rfl <| qO rfl <| op_store' rfl rfl rfl rfl sz30 rfl rfl (Nat.le_of_ble_eq_true rfl) rfl <| qA rfl rfl rfl <| qN <| mwp_ret ?_
   exact ret_cell_tmp (.inr rfl) Tryz.results31 rfl rfl ta30 rfl (.agg (.cons (.refl _) (.cons (.refl _) (.cons (.nil 1) (.cons (.nil 1) (.cons (.nil 5) .nil)))))) (cl_encV _ (noV)) rfl (.refl _) (.iface _ _ (.int _ _)) ⟨by rw [bothF_mk, hBq]; rfl, rfl⟩
  ·
   refine mcalls_body Tryz.func31 rfl Tryz.ntmps31 (Nat.le_of_ble_eq_true rfl) ?_
   refine mwp_seq <| qR rfl <| qB rfl rfl rfl rfl rfl <| qB rfl rfl rfl rfl rfl <| qB rfl rfl rfl rfl rfl <| qO rfl <| op_alloc' rfl zm30 rfl rfl <| qA rfl rfl rfl <| qN <| mwp_seq <| mwp_seq <| qR rfl <| qF rfl rfl rfl fo24_0 <| qL rfl rfl rfl rfl ta3 rfl <| qN <| mwp_block <| mwp_seq <| mwp_seq <| qR rfl <| qC rfl rfl rfl rfl rfl <| qA rfl rfl rfl <| qN ?_
   refine mwp_cond_f rfl (rfl) <| qR rfl <| qC rfl rfl rfl rfl rfl <| qA rfl rfl rfl <| qN <| mwp_cond_f rfl (rfl) <| mwp_seq <| qR rfl <| qC rfl rfl rfl rfl rfl <| qA rfl rfl rfl <| qN <| mwp_cond_f rfl (rfl) <| mwp_seq <| qR rfl <| qC rfl rfl rfl rfl rfl <| qA rfl rfl rfl <| qN <| mwp_cond_t rfl (rfl) <| qR rfl <| qL rfl rfl rfl rfl ta24 rfl <| qL rfl rfl rfl rfl ta30 rfl <| qL rfl rfl rfl rfl ta30 rfl ?_
   refine wOps_op rfl (op_call rfl rfl rfl co51 ((hof _).mono ?_))
   rintro _ _ ⟨rfl, rfl⟩
   refine qM rfl rfl rfl <| qO rfl <| op_extract rfl rfl rfl <| qO rfl <| op_extract rfl rfl rfl <| qO rfl <| op_store' rfl rfl rfl rfl sz30 rfl rfl (Nat.le_of_ble_eq_true rfl) rfl <| qA rfl rfl rfl <| qN <| mwp_seq <| mwp_seq <| qR rfl <| qM rfl rfl rfl <| qO rfl <| op_if0 rfl Tryz.underlying33 rfl rfl (.inl ⟨rfl, rfl⟩) <| qM rfl rfl rfl <| qL rfl rfl rfl rfl ta30 rfl ?_
   refine wOps_op rfl (op_call rfl rfl rfl co56 ((isLarge_spec n3 m3 s3 c3 w3 _).mono ?_))
   rintro _ _ ⟨rfl, rfl⟩
   refine qP rfl rfl rfl rfl <| qN ?_
   refine mwp_cond_split rfl (fun h69 => ?_) (fun h69 => ?_)
   ·
    refine qR rfl <| qO rfl <| op_makeInterface rfl rfl Tryz.underlying62 (by simp) ?_
    refine qA rfl rfl rfl <| qN <| mwp_seq <| mwp_seq <| qR rfl <| qM rfl rfl rfl <| qO rfl <| op_ifnil rfl Tryz.underlying33 rfl rfl (.inr ⟨rfl, rfl⟩) <| qN <| mwp_cond_t rfl (rfl) <| mwp_seq <| qR rfl <| qO rfl <| op_build rfl Tryz.underlying30 zm30 .nil (by kernel_rfl) ?_
    refine qM rfl rfl rfl <| qO rfl <| op_store' rfl rfl rfl rfl sz30 rfl rfl (Nat.le_of_ble_eq_true rfl) rfl <| qA rfl rfl rfl <| qN <| mwp_ret ?_
    exact ret_cell_tmp (.inr rfl) Tryz.results31 rfl rfl ta30 rfl (.agg (.cons (.refl _) (.cons (.refl _) (.cons (.nil 1) (.cons (.nil 1) (.cons (.nil 5) .nil)))))) (cl_encV _ (noV)) rfl (.refl _) (.iface _ _ (.int _ _)) ⟨by rw [bothF_mk, hBq, cap_t h69]; rfl, rfl⟩
   ·
    refine mwp_skip <| mwp_seq <| mwp_seq <| qR rfl <| qM rfl rfl rfl <| qO rfl <| op_if0 rfl Tryz.underlying33 rfl rfl (.inr ⟨rfl, rfl⟩) <| qN <| mwp_cond_f rfl (rfl) <| mwp_skip <| mwp_seq <| qR rfl <| qL rfl rfl rfl rfl ta30 rfl <| qO rfl <| op_store' rfl rfl rfl rfl sz30 rfl rfl (Nat.le_of_ble_eq_true rfl) rfl <| qA rfl rfl rfl <| qN <| mwp_ret ?_
    exact ret_cell_tmp (.inr rfl) Tryz.results31 rfl rfl ta30 rfl (.refl _) (cl_encV _ (.mk n3 m3 s3 c3 w3)) rfl (.refl _) (.iface0) ⟨by rw [bothF_mk, hBq, cap_f h69]; rfl, rfl⟩
 ·
  obtain ⟨⟨k1, i1⟩, ⟨k2, i2⟩, rfl⟩ := two_of hd.1
  have ih1 := ih (.mk k1 i1) (hd.2 _ (by simp))
  have ih2 := ih (.mk k2 i2) (hd.2 _ (by simp))
  obtain ⟨x1, y1, rfl, p1, p2⟩ := isV5 ha
  obtain ⟨x2, y2, rfl, q1, q2⟩ := isV5 hb
  have hof := pairs_specJ 5 [.mk k1 i1, .mk k2 i2] (by simp) bothF n1 m1 s1 c1 [x1, y1] n2 m2 s2 c2 [x2, y2] rfl rfl (fun i s x y hs hx hy => by
   match i, hs, hx, hy with
   | 0, hs, hx, hy => simp at hs hx hy; subst hs hx hy; exact ih1 _ _ p1 q1
   | 1, hs, hx, hy => simp at hs hx hy; subst hs hx hy; exact ih2 _ _ p2 q2
   | i + 2, hs, _, _ => simp at hs)
  have hBq : bothB 5 (bothL [.mk k1 i1, .mk k2 i2]) (.mk n1 m1 s1 c1 [x1, y1]) (.mk n2 m2 s2 c2 [x2, y2]) = pairF2 ([.mk k1 i1, .mk k2 i2].map bothF) (.mk n1 m1 s1 c1 [x1, y1]) (.mk n2 m2 s2 c2 [x2, y2]) := by rw [bothL_eq]; rfl
  rcases hO : pairF2 ([.mk k1 i1, .mk k2 i2].map bothF) (.mk n1 m1 s1 c1 [x1, y1]) (.mk n2 m2 s2 c2 [x2, y2]) with _ | ⟨⟨n3, m3, s3, c3, w3⟩⟩ <;> rw [hO] at hof hBq
  ·
   refine mcalls_body Tryz.func31 rfl Tryz.ntmps31 (Nat.le_of_ble_eq_true rfl) ?_
   refine mwp_seq <| qR rfl <| qB rfl rfl rfl rfl rfl <| qB rfl rfl rfl rfl rfl <| qB rfl rfl rfl rfl rfl <| qO rfl <| op_alloc' rfl zm30 rfl rfl <| qA rfl rfl rfl <| qN <| mwp_seq <| mwp_seq <| qR rfl <| qF rfl rfl rfl fo24_0 <| qL rfl rfl rfl rfl ta3 rfl <| qN <| mwp_block <| mwp_seq <| mwp_seq <| qR rfl <| qC rfl rfl rfl rfl rfl <| qA rfl rfl rfl <| qN ?_
   refine mwp_cond_f rfl (rfl) <| qR rfl <| qC rfl rfl rfl rfl rfl <| qA rfl rfl rfl <| qN <| mwp_cond_f rfl (rfl) <| mwp_seq <| qR rfl <| qC rfl rfl rfl rfl rfl <| qA rfl rfl rfl <| qN <| mwp_cond_f rfl (rfl) <| mwp_seq <| qR rfl <| qC rfl rfl rfl rfl rfl <| qA rfl rfl rfl <| qN <| mwp_cond_f rfl (rfl) <| mwp_seq <| qR rfl <| qC rfl rfl rfl rfl rfl <| qA rfl rfl rfl ?_
   refine qN <| mwp_cond_t rfl (rfl) <| qR rfl <| qL rfl rfl rfl rfl ta24 rfl <| qL rfl rfl rfl rfl ta30 rfl <| qL rfl rfl rfl rfl ta30 rfl ?_
   refine wOps_op rfl (op_call rfl rfl rfl co52 ((hof _).mono ?_))
   rintro _ _ ⟨rfl, rfl⟩
   refine qM rfl rfl rfl <| qO rfl <| op_extract rfl rfl rfl <| qO rfl <| op_extract rfl rfl rfl <| qO rfl <| op_store' rfl rfl rfl rfl sz30 rfl rfl (Nat.le_of_ble_eq_true rfl) rfl <| qA rfl rfl rfl <| qN <| mwp_seq <| mwp_seq <| qR rfl <| qM rfl rfl rfl <| qO rfl <| op_ifnil rfl Tryz.underlying33 rfl rfl (.inl ⟨rfl, rfl⟩) <| qM rfl rfl rfl <| qS rfl <| qS rfl <| qP rfl rfl rfl rfl <| qN <| mwp_cond_f rfl (rfl) <| mwp_skip <| mwp_seq <| mwp_seq <| qR rfl ?_
   refine qM rfl rfl rfl <| qO rfl <| op_ifnil rfl Tryz.underlying33 rfl rfl (.inr ⟨rfl, rfl⟩) <| qN <| mwp_cond_t rfl (rfl) <| mwp_seq <| qR rfl <| qO rfl <| op_build rfl Tryz.underlying30 zm30 .nil (by kernel_rfl) ?_
   refine qM rfl rfl rfl <| qO rfl <| op_store' rfl rfl rfl rfl sz30 rfl rfl (Nat.le_of_ble_eq_true rfl) rfl <| qA rfl rfl rfl <| qN <| mwp_ret ?_
   exact ret_cell_tmp (.inr rfl) Tryz.results31 rfl rfl ta30 rfl (.agg (.cons (.refl _) (.cons (.refl _) (.cons (.nil 1) (.cons (.nil 1) (.cons (.nil 5) .nil)))))) (cl_encV _ (noV)) rfl (.refl _) (.iface _ _ (.int _ _)) ⟨by rw [bothF_mk, hBq]; rfl, rfl⟩
  ·
   refine mcalls_body Tryz.func31 rfl Tryz.ntmps31 (Nat.le_of_ble_eq_true rfl) ?_
   refine mwp_seq <| qR rfl <| qB rfl rfl rfl rfl rfl <| qB rfl rfl rfl rfl rfl <| qB rfl rfl rfl rfl rfl <| qO rfl <| op_alloc' rfl zm30 rfl rfl <| qA rfl rfl rfl <| qN <| mwp_seq <| mwp_seq <| qR rfl <| qF rfl rfl rfl fo24_0 <| qL rfl rfl rfl rfl ta3 rfl <| qN <| mwp_block <| mwp_seq <| mwp_seq <| qR rfl <| qC rfl rfl rfl rfl rfl <| qA rfl rfl rfl <| qN ?_
   refine mwp_cond_f rfl (rfl) <| qR rfl <| qC rfl rfl rfl rfl rfl <| qA rfl rfl rfl <| qN <| mwp_cond_f rfl (rfl) <| mwp_seq <| qR rfl <| qC rfl rfl rfl rfl rfl <| qA rfl rfl rfl <| qN <| mwp_cond_f rfl (rfl) <| mwp_seq <| qR rfl <| qC rfl rfl rfl rfl rfl <| qA rfl rfl rfl <| qN <| mwp_cond_f rfl (rfl) <| mwp_seq <| qR rfl <| qC rfl rfl rfl rfl rfl <| qA rfl rfl rfl ?_
   refine qN <| mwp_cond_t rfl (rfl) <| qR rfl <| qL rfl rfl rfl rfl ta24 rfl <| qL rfl rfl rfl rfl ta30 rfl <| qL rfl rfl rfl rfl ta30 rfl ?_
   refine wOps_op rfl (op_call rfl rfl rfl co52 ((hof _).mono ?_))
   rintro _ _ ⟨rfl, rfl⟩
   refine qM rfl rfl rfl <| qO rfl <| op_extract rfl rfl rfl <| qO rfl <| op_extract rfl rfl rfl <| qO rfl <| op_store' rfl rfl rfl rfl sz30 rfl rfl (Nat.le_of_ble_eq_true rfl) rfl <| qA rfl rfl rfl <| qN <| mwp_seq <| mwp_seq <| qR rfl <| qM rfl rfl rfl <| qO rfl <| op_if0 rfl Tryz.underlying33 rfl rfl (.inl ⟨rfl, rfl⟩) <| qM rfl rfl rfl <| qL rfl rfl rfl rfl ta30 rfl ?_
   refine wOps_op rfl (op_call rfl rfl rfl co56 ((isLarge_spec n3 m3 s3 c3 w3 _).mono ?_))
   rintro _ _ ⟨rfl, rfl⟩
   refine qP rfl rfl rfl rfl <| qN ?_
   refine mwp_cond_split rfl (fun h69 => ?_) (fun h69 => ?_)
   ·
    refine qR rfl <| qO rfl <| op_makeInterface rfl rfl Tryz.underlying62 (by simp) ?_
    refine qA rfl rfl rfl <| qN <| mwp_seq <| mwp_seq <| qR rfl <| qM rfl rfl rfl <| qO rfl <| op_ifnil rfl Tryz.underlying33 rfl rfl (.inr ⟨rfl, rfl⟩) <| qN <| mwp_cond_t rfl (rfl) <| mwp_seq <| qR rfl <| qO rfl <| op_build rfl Tryz.underlying30 zm30 .nil (by kernel_rfl) ?_
    refine qM rfl rfl rfl <| qO rfl <| op_store' rfl rfl rfl rfl sz30 rfl rfl (Nat.le_of_ble_eq_true rfl) rfl <| qA rfl rfl rfl <| qN <| mwp_ret ?_
    exact ret_cell_tmp (.inr rfl) Tryz.results31 rfl rfl ta30 rfl (.agg (.cons (.refl _) (.cons (.refl _) (.cons (.nil 1) (.cons (.nil 1) (.cons (.nil 5) .nil)))))) (cl_encV _ (noV)) rfl (.refl _) (.iface _ _ (.int _ _)) ⟨by rw [bothF_mk, hBq, cap_t h69]; rfl, rfl⟩
   ·
    refine mwp_skip <| mwp_seq <| mwp_seq <| qR rfl <| qM rfl rfl rfl <| qO rfl <| op_if0 rfl Tryz.underlying33 rfl rfl (.inr ⟨rfl, rfl⟩) <| qN <| mwp_cond_f rfl (rfl) <| mwp_skip <| mwp_seq <| qR rfl <| qL rfl rfl rfl rfl ta30 rfl <| qO rfl <| op_store' rfl rfl rfl rfl sz30 rfl rfl (Nat.le_of_ble_eq_true rfl) rfl <| qA rfl rfl rfl <| qN <| mwp_ret ?_
    exact ret_cell_tmp (.inr rfl) Tryz.results31 rfl rfl ta30 rfl (.refl _) (cl_encV _ (.mk n3 m3 s3 c3 w3)) rfl (.refl _) (.iface0) ⟨by rw [bothF_mk, hBq, cap_f h69]; rfl, rfl⟩
 ·
  obtain ⟨n3, m3, s3, c3, w3, hlt⟩ : ∃ n m s c w, laterF (.mk n1 m1 s1 c1 w1) (.mk n2 m2 s2 c2 w2) = .mk n m s c w := by cases laterF (.mk n1 m1 s1 c1 w1) (.mk n2 m2 s2 c2 w2) with
   | mk n m s c w => exact ⟨n, m, s, c, w, rfl⟩
  have hlt2 := later_spec n1 m1 s1 c1 w1 n2 m2 s2 c2 w2
  rw [hlt] at hlt2
  have hB : bothB 6 (bothL ins) (.mk n1 m1 s1 c1 w1) (.mk n2 m2 s2 c2 w2) = some (.mk n3 m3 s3 c3 w3) := congrArg some hlt
  refine mcalls_body Tryz.func31 rfl Tryz.ntmps31 (Nat.le_of_ble_eq_true rfl) ?_
  refine mwp_seq <| qR rfl <| qB rfl rfl rfl rfl rfl <| qB rfl rfl rfl rfl rfl <| qB rfl rfl rfl rfl rfl <| qO rfl <| op_alloc' rfl zm30 rfl rfl <| qA rfl rfl rfl <| qN <| mwp_seq <| mwp_seq <| qR rfl <| qF rfl rfl rfl fo24_0 <| qL rfl rfl rfl rfl ta3 rfl <| qN <| mwp_block <| mwp_seq <| mwp_seq <| qR rfl <| qC rfl rfl rfl rfl rfl <| qA rfl rfl rfl <| qN ?_
  refine mwp_cond_f rfl (rfl) <| qR rfl <| qC rfl rfl rfl rfl rfl <| qA rfl rfl rfl <| qN <| mwp_cond_f rfl (rfl) <| mwp_seq <| qR rfl <| qC rfl rfl rfl rfl rfl <| qA rfl rfl rfl <| qN <| mwp_cond_f rfl (rfl) <| mwp_seq <| qR rfl <| qC rfl rfl rfl rfl rfl <| qA rfl rfl rfl <| qN <| mwp_cond_f rfl (rfl) <| mwp_seq <| qR rfl <| qC rfl rfl rfl rfl rfl <| qA rfl rfl rfl ?_
  refine qN <| mwp_cond_f rfl (rfl) <| mwp_seq <| qR rfl <| qC rfl rfl rfl rfl rfl <| qA rfl rfl rfl <| qN <| mwp_cond_t rfl (rfl) <| qR rfl <| qL rfl rfl rfl rfl ta30 rfl <| qL rfl rfl rfl rfl ta30 rfl ?_
  refine wOps_op rfl (op_call rfl rfl rfl co53 ((hlt2 _).mono ?_))
  rintro _ _ ⟨rfl, rfl⟩
  refine qO rfl <| op_store' rfl rfl rfl rfl sz30 rfl rfl (Nat.le_of_ble_eq_true rfl) rfl <| qN <| mwp_seq <| mwp_seq <| qR rfl <| qM rfl rfl rfl <| qO rfl <| op_if0 rfl Tryz.underlying33 rfl rfl (.inl ⟨rfl, rfl⟩) <| qM rfl rfl rfl <| qL rfl rfl rfl rfl ta30 rfl ?_
  refine wOps_op rfl (op_call rfl rfl rfl co56 ((isLarge_spec n3 m3 s3 c3 w3 _).mono ?_))
  rintro _ _ ⟨rfl, rfl⟩
  refine qP rfl rfl rfl rfl <| qN ?_
  refine mwp_cond_split rfl (fun h69 => ?_) (fun h69 => ?_)
  ·
   refine qR rfl <| qO rfl <| op_makeInterface rfl rfl Tryz.underlying62 (by simp) ?_
   refine qA rfl rfl rfl <| qN <| mwp_seq <| mwp_seq <| qR rfl <| qM rfl rfl rfl <| qO rfl <| op_ifnil rfl Tryz.underlying33 rfl rfl (.inr ⟨rfl, rfl⟩) <| qN <| mwp_cond_t rfl (rfl) <| mwp_seq <| qR rfl <| qO rfl <| op_build rfl Tryz.underlying30 zm30 .nil (by kernel_rfl) ?_
   refine qM rfl rfl rfl <| qO rfl <| op_store' rfl rfl rfl rfl sz30 rfl rfl (Nat.le_of_ble_eq_true rfl) rfl <| qA rfl rfl rfl <| qN <| mwp_ret ?_
   exact ret_cell_tmp (.inr rfl) Tryz.results31 rfl rfl ta30 rfl (.agg (.cons (.refl _) (.cons (.refl _) (.cons (.nil 1) (.cons (.nil 1) (.cons (.nil 5) .nil)))))) (cl_encV _ (noV)) rfl (.refl _) (.iface _ _ (.int _ _)) ⟨by rw [bothF_mk, hB, cap_t h69]; rfl, rfl⟩
  ·
   refine mwp_skip <| mwp_seq <| mwp_seq <| qR rfl <| qM rfl rfl rfl <| qO rfl <| op_if0 rfl Tryz.underlying33 rfl rfl (.inr ⟨rfl, rfl⟩) <| qN <| mwp_cond_f rfl (rfl) <| mwp_skip <| mwp_seq <| qR rfl <| qL rfl rfl rfl rfl ta30 rfl <| qO rfl <| op_store' rfl rfl rfl rfl sz30 rfl rfl (Nat.le_of_ble_eq_true rfl) rfl <| qA rfl rfl rfl <| qN <| mwp_ret ?_
   exact ret_cell_tmp (.inr rfl) Tryz.results31 rfl rfl ta30 rfl (.refl _) (cl_encV _ (.mk n3 m3 s3 c3 w3)) rfl (.refl _) (.iface0) ⟨by rw [bothF_mk, hB, cap_f h69]; rfl, rfl⟩
 ·
  have b1 := isV7 ha
  have b2 := isV7 hb
  obtain ⟨n3, m3, s3, c3, w3, hlt⟩ : ∃ n m s c w, clocksF (.mk n1 m1 s1 c1 w1) (.mk n2 m2 s2 c2 w2) = .mk n m s c w := by cases clocksF (.mk n1 m1 s1 c1 w1) (.mk n2 m2 s2 c2 w2) with
   | mk n m s c w => exact ⟨n, m, s, c, w, rfl⟩
  have hlt2 := clocks_spec n1 m1 s1 c1 w1 n2 m2 s2 c2 w2 (fun x hx y hy => by have := b1 x hx; have := b2 y hy; omega)
  rw [hlt] at hlt2
  have hB : bothB 7 (bothL ins) (.mk n1 m1 s1 c1 w1) (.mk n2 m2 s2 c2 w2) = some (.mk n3 m3 s3 c3 w3) := congrArg some hlt
  refine mcalls_body Tryz.func31 rfl Tryz.ntmps31 (Nat.le_of_ble_eq_true rfl) ?_
  refine mwp_seq <| qR rfl <| qB rfl rfl rfl rfl rfl <| qB rfl rfl rfl rfl rfl <| qB rfl rfl rfl rfl rfl <| qO rfl <| op_alloc' rfl zm30 rfl rfl <| qA rfl rfl rfl <| qN <| mwp_seq <| mwp_seq <| qR rfl <| qF rfl rfl rfl fo24_0 <| qL rfl rfl rfl rfl ta3 rfl <| qN <| mwp_block <| mwp_seq <| mwp_seq <| qR rfl <| qC rfl rfl rfl rfl rfl <| qA rfl rfl rfl <| qN ?_
  refine mwp_cond_f rfl (rfl) <| qR rfl <| qC rfl rfl rfl rfl rfl <| qA rfl rfl rfl <| qN <| mwp_cond_f rfl (rfl) <| mwp_seq <| qR rfl <| qC rfl rfl rfl rfl rfl <| qA rfl rfl rfl <| qN <| mwp_cond_f rfl (rfl) <| mwp_seq <| qR rfl <| qC rfl rfl rfl rfl rfl <| qA rfl rfl rfl <| qN <| mwp_cond_f rfl (rfl) <| mwp_seq <| qR rfl <| qC rfl rfl rfl rfl rfl <| qA rfl rfl rfl ?_
  refine qN <| mwp_cond_f rfl (rfl) <| mwp_seq <| qR rfl <| qC rfl rfl rfl rfl rfl <| qA rfl rfl rfl <| qN <| mwp_cond_f rfl (rfl) <| mwp_seq <| qR rfl <| qC rfl rfl rfl rfl rfl <| qA rfl rfl rfl <| qN <| mwp_cond_t rfl (rfl) <| qR rfl <| qL rfl rfl rfl rfl ta30 rfl <| qL rfl rfl rfl rfl ta30 rfl ?_
  refine wOps_op rfl (op_call rfl rfl rfl co54 ((hlt2 _).mono ?_))
  rintro _ _ ⟨rfl, rfl⟩
  refine qO rfl <| op_store' rfl rfl rfl rfl sz30 rfl rfl (Nat.le_of_ble_eq_true rfl) rfl <| qN <| mwp_seq <| mwp_seq <| qR rfl <| qM rfl rfl rfl <| qO rfl <| op_if0 rfl Tryz.underlying33 rfl rfl (.inl ⟨rfl, rfl⟩) <| qM rfl rfl rfl <| qL rfl rfl rfl rfl ta30 rfl ?_
  refine wOps_op rfl (op_call rfl rfl rfl co56 ((isLarge_spec n3 m3 s3 c3 w3 _).mono ?_))
  rintro _ _ ⟨rfl, rfl⟩
  refine qP rfl rfl rfl rfl <| qN ?_
  refine mwp_cond_split rfl (fun h69 => ?_) (fun h69 => ?_)
  ·
   refine qR rfl <| qO rfl <| op_makeInterface rfl rfl Tryz.underlying62 (by simp) ?_
   refine qA rfl rfl rfl <| qN <| mwp_seq <| mwp_seq <| qR rfl <| qM rfl rfl rfl <| qO rfl <| op_ifnil rfl Tryz.underlying33 rfl rfl (.inr ⟨rfl, rfl⟩) <| qN <| mwp_cond_t rfl (rfl) <| mwp_seq <| qR rfl <| qO rfl <| op_build rfl Tryz.underlying30 zm30 .nil (by kernel_rfl) ?_
   refine qM rfl rfl rfl <| qO rfl <| op_store' rfl rfl rfl rfl sz30 rfl rfl (Nat.le_of_ble_eq_true rfl) rfl <| qA rfl rfl rfl <| qN <| mwp_ret ?_
   exact ret_cell_tmp (.inr rfl) Tryz.results31 rfl rfl ta30 rfl (.agg (.cons (.refl _) (.cons (.refl _) (.cons (.nil 1) (.cons (.nil 1) (.cons (.nil 5) .nil)))))) (cl_encV _ (noV)) rfl (.refl _) (.iface _ _ (.int _ _)) ⟨by rw [bothF_mk, hB, cap_t h69]; rfl, rfl⟩
  ·
   refine mwp_skip <| mwp_seq <| mwp_seq <| qR rfl <| qM rfl rfl rfl <| qO rfl <| op_if0 rfl Tryz.underlying33 rfl rfl (.inr ⟨rfl, rfl⟩) <| qN <| mwp_cond_f rfl (rfl) <| mwp_skip <| mwp_seq <| qR rfl <| qL rfl rfl rfl rfl ta30 rfl <| qO rfl <| op_store' rfl rfl rfl rfl sz30 rfl rfl (Nat.le_of_ble_eq_true rfl) rfl <| qA rfl rfl rfl <| qN <| mwp_ret ?_
   exact ret_cell_tmp (.inr rfl) Tryz.results31 rfl rfl ta30 rfl (.refl _) (cl_encV _ (.mk n3 m3 s3 c3 w3)) rfl (.refl _) (.iface0) ⟨by rw [bothF_mk, hB, cap_f h69]; rfl, rfl⟩
 ·
  obtain ⟨⟨k1, i1⟩, rfl⟩ := one_ins hd.1 (by decide)
  have ih1 := ih (.mk k1 i1) (hd.2 _ (by simp))
  obtain ⟨p1, p2, p4, p3⟩ := isV8 ha
  obtain ⟨q1, q2, q4, q3⟩ := isV8 hb
  have hof := causes_spec 8 k1 i1 [] (bothF (.mk k1 i1)) n1 m1 s1 c1 w1 n2 m2 s2 c2 w2 p2 q2 p1 q1 (fun x hx => by have := p4 x hx; omega) (fun x hx => by have := q4 x hx; omega) (fun x hx y hy => ih1 x y (p3 x hx) (q3 y hy))
  have hBq : bothB 8 (bothL [.mk k1 i1]) (.mk n1 m1 s1 c1 w1) (.mk n2 m2 s2 c2 w2) = causesF (bothF (.mk k1 i1)) (.mk n1 m1 s1 c1 w1) (.mk n2 m2 s2 c2 w2) := rfl
  rcases hO : causesF (bothF (.mk k1 i1)) (.mk n1 m1 s1 c1 w1) (.mk n2 m2 s2 c2 w2) with _ | ⟨⟨n3, m3, s3, c3, w3⟩⟩ <;> rw [hO] at hof hBq
  ·
   refine mcalls_body Tryz.func31 rfl Tryz.ntmps31 (Nat.le_of_ble_eq_true rfl) ?_
   refine mwp_seq <| qR rfl <| qB rfl rfl rfl rfl rfl <| qB rfl rfl rfl rfl rfl <| qB rfl rfl rfl rfl rfl <| qO rfl <| op_alloc' rfl zm30 rfl rfl <| qA rfl rfl rfl <| qN <| mwp_seq <| mwp_seq <| qR rfl <| qF rfl rfl rfl fo24_0 <| qL rfl rfl rfl rfl ta3 rfl <| qN <| mwp_block <| mwp_seq <| mwp_seq <| qR rfl <| qC rfl rfl rfl rfl rfl <| qA rfl rfl rfl <| qN ?_
   refine mwp_cond_f rfl (rfl) <| qR rfl <| qC rfl rfl rfl rfl rfl <| qA rfl rfl rfl <| qN <| mwp_cond_f rfl (rfl) <| mwp_seq <| qR rfl <| qC rfl rfl rfl rfl rfl <| qA rfl rfl rfl <| qN <| mwp_cond_f rfl (rfl) <| mwp_seq <| qR rfl <| qC rfl rfl rfl rfl rfl <| qA rfl rfl rfl <| qN <| mwp_cond_f rfl (rfl) <| mwp_seq <| qR rfl <| qC rfl rfl rfl rfl rfl <| qA rfl rfl rfl ?_
   refine qN <| mwp_cond_f rfl (rfl) <| mwp_seq <| qR rfl <| qC rfl rfl rfl rfl rfl <| qA rfl rfl rfl <| qN <| mwp_cond_f rfl (rfl) <| mwp_seq <| qR rfl <| qC rfl rfl rfl rfl rfl <| qA rfl rfl rfl <| qN <| mwp_cond_f rfl (rfl) <| mwp_seq <| qR rfl <| qC rfl rfl rfl rfl rfl <| qA rfl rfl rfl <| qN <| mwp_cond_t rfl (rfl) <| qR rfl <| qL rfl rfl rfl rfl ta24 rfl <| qL rfl rfl rfl rfl ta30 rfl ?_
   refine qL rfl rfl rfl rfl ta30 rfl ?_
   refine wOps_op rfl (op_call rfl rfl rfl co55 ((hof _).mono ?_))
   rintro _ _ ⟨rfl, rfl⟩
   refine qM rfl rfl rfl <| qO rfl <| op_extract rfl rfl rfl <| qO rfl <| op_extract rfl rfl rfl <| qO rfl <| op_store' rfl rfl rfl rfl sz30 rfl rfl (Nat.le_of_ble_eq_true rfl) rfl <| qA rfl rfl rfl <| qN <| mwp_seq <| mwp_seq <| qR rfl <| qM rfl rfl rfl <| qO rfl <| op_ifnil rfl Tryz.underlying33 rfl rfl (.inl ⟨rfl, rfl⟩) <| qM rfl rfl rfl <| qS rfl <| qS rfl <| qP rfl rfl rfl rfl <| qN <| mwp_cond_f rfl (rfl) <| mwp_skip <| mwp_seq <| mwp_seq <| qR rfl ?_
   refine qM rfl rfl rfl <| qO rfl <| op_ifnil rfl Tryz.underlying33 rfl rfl (.inr ⟨rfl, rfl⟩) <| qN <| mwp_cond_t rfl (rfl) <| mwp_seq <| qR rfl <| qO rfl <| op_build rfl Tryz.underlying30 zm30 .nil (by kernel_rfl) ?_
   refine qM rfl rfl rfl <| qO rfl <| op_store' rfl rfl rfl rfl sz30 rfl rfl (Nat.le_of_ble_eq_true rfl) rfl <| qA rfl rfl rfl <| qN <| mwp_ret ?_
   exact ret_cell_tmp (.inr rfl) Tryz.results31 rfl rfl ta30 rfl (.agg (.cons (.refl _) (.cons (.refl _) (.cons (.nil 1) (.cons (.nil 1) (.cons (.nil 5) .nil)))))) (cl_encV _ (noV)) rfl (.refl _) (.iface _ _ (.int _ _)) ⟨by rw [bothF_mk, hBq]; rfl, rfl⟩
  ·
   refine mcalls_body Tryz.func31 rfl Tryz.ntmps31 (Nat.le_of_ble_eq_true rfl) ?_
   refine mwp_seq <| qR rfl <| qB rfl rfl rfl rfl rfl <| qB rfl rfl rfl rfl rfl <| qB rfl rfl rfl rfl rfl <| qO rfl <| op_alloc' rfl zm30 rfl rfl <| qA rfl rfl rfl <| qN <| mwp_seq <| mwp_seq <| qR rfl <| qF rfl rfl rfl fo24_0 <| qL rfl rfl rfl rfl ta3 rfl <| qN <| mwp_block <| mwp_seq <| mwp_seq <| qR rfl <| qC rfl rfl rfl rfl rfl <| qA rfl rfl rfl <| qN ?_
   refine mwp_cond_f rfl (rfl) <| qR rfl <| qC rfl rfl rfl rfl rfl <| qA rfl rfl rfl <| qN <| mwp_cond_f rfl (rfl) <| mwp_seq <| qR rfl <| qC rfl rfl rfl rfl rfl <| qA rfl rfl rfl <| qN <| mwp_cond_f rfl (rfl) <| mwp_seq <| qR rfl <| qC rfl rfl rfl rfl rfl <| qA rfl rfl rfl <| qN <| mwp_cond_f rfl (rfl) <| mwp_seq <| qR rfl <| qC rfl rfl rfl rfl rfl <| qA rfl rfl rfl ?_
   refine qN <| mwp_cond_f rfl (rfl) <| mwp_seq <| qR rfl <| qC rfl rfl rfl rfl rfl <| qA rfl rfl rfl <| qN <| mwp_cond_f rfl (rfl) <| mwp_seq <| qR rfl <| qC rfl rfl rfl rfl rfl <| qA rfl rfl rfl <| qN <| mwp_cond_f rfl (rfl) <| mwp_seq <| qR rfl <| qC rfl rfl rfl rfl rfl <| qA rfl rfl rfl <| qN <| mwp_cond_t rfl (rfl) <| qR rfl <| qL rfl rfl rfl rfl ta24 rfl <| qL rfl rfl rfl rfl ta30 rfl ?_
   refine qL rfl rfl rfl rfl ta30 rfl ?_
   refine wOps_op rfl (op_call rfl rfl rfl co55 ((hof _).mono ?_))
   rintro _ _ ⟨rfl, rfl⟩
   refine qM rfl rfl rfl <| qO rfl <| op_extract rfl rfl rfl <| qO rfl <| op_extract rfl rfl rfl <| qO rfl <| op_store' rfl rfl rfl rfl sz30 rfl rfl (Nat.le_of_ble_eq_true rfl) rfl <| qA rfl rfl rfl <| qN <| mwp_seq <| mwp_seq <| qR rfl <| qM rfl rfl rfl <| qO rfl <| op_if0 rfl Tryz.underlying33 rfl rfl (.inl ⟨rfl, rfl⟩) <| qM rfl rfl rfl <| qL rfl rfl rfl rfl ta30 rfl ?_
   refine wOps_op rfl (op_call rfl rfl rfl co56 ((isLarge_spec n3 m3 s3 c3 w3 _).mono ?_))
   rintro _ _ ⟨rfl, rfl⟩
   refine qP rfl rfl rfl rfl <| qN ?_
   refine mwp_cond_split rfl (fun h69 => ?_) (fun h69 => ?_)
   ·
    refine qR rfl <| qO rfl <| op_makeInterface rfl rfl Tryz.underlying62 (by simp) ?_
    refine qA rfl rfl rfl <| qN <| mwp_seq <| mwp_seq <| qR rfl <| qM rfl rfl rfl <| qO rfl <| op_ifnil rfl Tryz.underlying33 rfl rfl (.inr ⟨rfl, rfl⟩) <| qN <| mwp_cond_t rfl (rfl) <| mwp_seq <| qR rfl <| qO rfl <| op_build rfl Tryz.underlying30 zm30 .nil (by kernel_rfl) ?_
    refine qM rfl rfl rfl <| qO rfl <| op_store' rfl rfl rfl rfl sz30 rfl rfl (Nat.le_of_ble_eq_true rfl) rfl <| qA rfl rfl rfl <| qN <| mwp_ret ?_
    exact ret_cell_tmp (.inr rfl) Tryz.results31 rfl rfl ta30 rfl (.agg (.cons (.refl _) (.cons (.refl _) (.cons (.nil 1) (.cons (.nil 1) (.cons (.nil 5) .nil)))))) (cl_encV _ (noV)) rfl (.refl _) (.iface _ _ (.int _ _)) ⟨by rw [bothF_mk, hBq, cap_t h69]; rfl, rfl⟩
   ·
    refine mwp_skip <| mwp_seq <| mwp_seq <| qR rfl <| qM rfl rfl rfl <| qO rfl <| op_if0 rfl Tryz.underlying33 rfl rfl (.inr ⟨rfl, rfl⟩) <| qN <| mwp_cond_f rfl (rfl) <| mwp_skip <| mwp_seq <| qR rfl <| qL rfl rfl rfl rfl ta30 rfl <| qO rfl <| op_store' rfl rfl rfl rfl sz30 rfl rfl (Nat.le_of_ble_eq_true rfl) rfl <| qA rfl rfl rfl <| qN <| mwp_ret ?_
    exact ret_cell_tmp (.inr rfl) Tryz.results31 rfl rfl ta30 rfl (.refl _) (cl_encV _ (.mk n3 m3 s3 c3 w3)) rfl (.refl _) (.iface0) ⟨by rw [bothF_mk, hBq, cap_f h69]; rfl, rfl⟩
end Go.Proofs.YtnfcnpdpfgcchaaGreatDoor
end
section
set_option linter.unusedVariables false
set_option linter.unusedSimpArgs false
set_option maxRecDepth 20000
set_option maxHeartbeats 400000
namespace Go.Proofs.YtnfcnpdpfgcchaaGreatDoor
open Go Go.MV
theorem ahead_nil : ∀ b : List Tk, aheadF [] b = decide (0 < b.length)
 | [] => rfl
 | _ :: _ => rfl
theorem ahead_nil2 : ∀ a : List Tk, aheadF a [] = false
 | [] => rfl
 | _ :: _ => rfl
theorem fits_mk {n m : Int} {s : List Bs} {c : List (List Tk)} {w : List Val} (k : Int) : fitsF k (.mk n m s c w) =
 (if k = 1 then hasF (.mk n m s c w) true false false false false
 else if k = 2 then hasF (.mk n m s c w) true false false false false && decide (n ≤ 1)
 else if k = 3 then hasF (.mk n m s c w) false false true false false && shortF s
 else if k = 4 then hasF (.mk n m s c w) false false true false true && shortF s && decide (s.length = w.length)
 else if k = 5 then hasF (.mk n m s c w) false false false false true && decide (w.length = 2)
 else if k = 6 then (match s with | [] => hasF (.mk n m s c w) false false false false false | [t] => hasF (.mk n m s c w) true true true false false && decide (t.length ≤ 16) && (!(n == 0) || !(m == 0) || !(t == [])) | _ => false)
 else if k = 7 then hasF (.mk n m s c w) false false false true false && decide (c.length ≤ 1)
 else hasF (.mk n m s c w) false false false true true && decide (c.length = w.length)) := rfl
theorem fits6_one {n m : Int} {t : Bs} {c : List (List Tk)} {w : List Val} : fitsF 6 (.mk n m [t] c w) = (hasF (.mk n m [t] c w) true true true false false && decide (t.length ≤ 16) && (!(n == 0) || !(m == 0) || !(t == []))) := rfl
theorem fits6_nil {n m : Int} {c : List (List Tk)} {w : List Val} : fitsF 6 (.mk n m [] c w) = hasF (.mk n m [] c w) false false false false false := rfl
theorem fits6_no {n m : Int} {s : List Bs} {c : List (List Tk)} {w : List Val} (h : ¬ s = []) (h1 : ¬ s.length = 1) : fitsF 6 (.mk n m s c w) = false := by
 match s, h, h1 with
 | [], h, _ => exact absurd rfl h
 | [t], _, h => exact absurd rfl h
 | _ :: _ :: _, _, _ => rfl
theorem fits6_has {n m : Int} {s : List Bs} {c : List (List Tk)} {w : List Val} (h : ¬ s = []) (h1 : hasF (.mk n m s c w) true true true false false = false) : fitsF 6 (.mk n m s c w) = false := by
 match s, h, h1 with
 | [], h, _ => exact absurd rfl h
 | [t], _, h =>
  show (hasF (.mk n m [t] c w) true true true false false && _ && _) = false
  rw [h]; rfl
 | _ :: _ :: _, _, _ => rfl
theorem rBottomV_spec (d : Nat) : d ≤ 16 → ∀ (s : Sch), isF d s = true → ∀ S : MS, MCalls Tryz.prog 37 [encS s] S fun v σ' => v = encV (BottomF s) ∧ σ' = S := by
 induction d with
 | zero => intro _ s h; simp [isF] at h
 | succ d ih =>
 rintro h16 ⟨k, ins⟩ hd S
 have his := isF_le h16 hd
 rw [isF] at hd
 simp only [Bool.and_eq_true, List.all_eq_true, beq_iff_eq] at hd
 refine mcalls_body Tryz.func37 rfl Tryz.ntmps37 (Nat.le_of_ble_eq_true rfl) ?_
 refine mwp_seq <| qR rfl <| qB rfl rfl rfl rfl rfl <| qO rfl <| op_alloc' rfl zm30 rfl rfl <| qN <| mwp_seq <| mwp_seq <| qR rfl <| qL rfl rfl rfl rfl ta24 rfl ?_
 refine wOps_op rfl (op_call rfl rfl rfl co36 ((rIsSchema_spec (.mk k ins) _).mono ?_))
 rintro _ _ ⟨rfl, rfl⟩
 rw [his]
 refine qO rfl <| op_not rfl rfl <| qM rfl rfl rfl <| qF rfl rfl rfl fo24_0 <| qL rfl rfl rfl rfl ta3 rfl <| qC rfl rfl rfl rfl rfl <| qP rfl rfl rfl rfl <| qN ?_
 refine mwp_cond_split rfl (fun h10 => ?_) (fun h10 => ?_)
 ·
  have hk : ¬ k = 5 := by simpa using h10
  have hbot : BottomF (.mk k ins) = noV := by unfold BottomF; rw [if_pos his, bottomF, if_neg hk]
  refine mwp_seq <| qR rfl <| qO rfl <| op_build rfl Tryz.underlying30 zm30 .nil (by kernel_rfl) ?_
  refine qO rfl <| op_store' rfl rfl rfl rfl sz30 rfl rfl (Nat.le_of_ble_eq_true rfl) rfl <| qN <| mwp_ret ?_
  rw [hbot]
  exact ret_cell (y := encV (noV)) (.inr rfl) Tryz.results37 rfl rfl ta30 rfl (.agg (.cons (.refl _) (.cons (.refl _) (.cons (.nil _) (.cons (.nil _) (.cons (.nil _) .nil)))))) (cl_encV _ _) ⟨rfl, rfl⟩
 ·
  have hk : k = 5 := by simpa using h10
  subst hk
  obtain ⟨⟨k1, i1⟩, ⟨k2, i2⟩, rfl⟩ := two_of hd.1
  have his1 := isF_le (by omega : d ≤ 16) (hd.2 (.mk k1 i1) (by simp))
  have his2 := isF_le (by omega : d ≤ 16) (hd.2 (.mk k2 i2) (by simp))
  obtain ⟨⟨n1, m1, s1, c1, w1⟩, e1⟩ : ∃ v, BottomF (.mk k1 i1) = v := ⟨_, rfl⟩
  obtain ⟨⟨n2, m2, s2, c2, w2⟩, e2⟩ : ∃ v, BottomF (.mk k2 i2) = v := ⟨_, rfl⟩
  have ih1 := ih (by omega) (.mk k1 i1) (hd.2 _ (by simp))
  have ih2 := ih (by omega) (.mk k2 i2) (hd.2 _ (by simp))
  simp only [e1] at ih1
  simp only [e2] at ih2
  have hbot : BottomF (.mk 5 [.mk k1 i1, .mk k2 i2]) = .mk 0 0 [] [] [.mk n1 m1 s1 c1 w1, .mk n2 m2 s2 c2 w2] := by
   unfold BottomF at e1 e2 ⊢
   rw [if_pos his1] at e1
   rw [if_pos his2] at e2
   rw [if_pos his, bottomF, if_pos rfl, bottomL, bottomL, bottomL, e1, e2]
  refine mwp_skip <| mwp_seq ?_
  refine mwp_draw [12] [_, S ++ [.cells (encS (.mk 5 [.mk k1 i1, .mk k2 i2])).cells, .cells [.int .u64 0, .int .u64 0, .lst0, .lst0, .lst none 5 [encV (.mk n1 m1 s1 c1 w1), encV (.mk n2 m2 s2 c2 w2)]]]] mo (by decide) rfl rfl rfl rfl ?_
  refine dO rfl rfl rfl (op_fieldAddr_ref rfl rfl fo24_1 ⟨rfl, rfl⟩) <| dO rfl rfl rfl (op_load' rfl rfl rfl ta22 rfl ⟨rfl, rfl⟩) <| dO rfl rfl rfl (op_indexAddr rfl Tryz.underlying22 sz24 (by decide) rfl rfl rfl (show _ = some (encS (.mk k1 i1)) from rfl) ⟨rfl, rfl⟩) ?_
  refine dO rfl rfl rfl (op_load_sptr rfl rfl ta24 rfl ⟨rfl, rfl⟩) <| dOps_op rfl rfl (.cons (op_call rfl rfl rfl co37 (ih1 _)) .nil) <| dO rfl rfl rfl (op_fieldAddr_ref rfl rfl fo24_1 ⟨rfl, rfl⟩) <| dO rfl rfl rfl (op_load' rfl rfl rfl ta22 rfl ⟨rfl, rfl⟩) <| dO rfl rfl rfl (op_indexAddr rfl Tryz.underlying22 sz24 (by decide) rfl rfl rfl (show _ = some (encS (.mk k2 i2)) from rfl) ⟨rfl, rfl⟩) ?_
  refine dO rfl rfl rfl (op_load_sptr rfl rfl ta24 rfl ⟨rfl, rfl⟩) <| dOps_op rfl rfl (.cons (op_call rfl rfl rfl co37 (ih2 _)) .nil) <| dO rfl rfl rfl (op_buildSlice rfl Tryz.underlying28 el30 rfl rfl (by decide) (by decide) rfl rfl ⟨rfl, rfl⟩) ?_
  refine dO rfl rfl rfl (op_build rfl Tryz.underlying30 zm30 (.cons fo30_4 sz28 rfl rfl (Nat.le_of_ble_eq_true rfl) .nil) (by kernel_rfl) ⟨rfl, rfl⟩) ?_
  refine dOps_eff rfl rfl rfl rfl (op_store' rfl rfl rfl rfl sz30 rfl rfl (Nat.le_of_ble_eq_true rfl) rfl ⟨rfl, rfl⟩) <| dOps_nil <| mwp_ret ?_
  rw [hbot]
  exact ret_cell (y := encV (.mk 0 0 [] [] [.mk n1 m1 s1 c1 w1, .mk n2 m2 s2 c2 w2])) (.inr rfl) Tryz.results37 rfl rfl ta30 rfl (.agg (.cons (.refl _) (.cons (.refl _) (.cons (.nil _) (.cons (.nil _) (.cons (.refl _) .nil)))))) (cl_encV _ _) ⟨rfl, rfl⟩
theorem rBottom_spec (s : Sch) (S : MS) : MCalls Tryz.prog 37 [encS s] S fun v σ' => v = encV (BottomF s) ∧ σ' = S := by
 by_cases h : isF 16 s = true
 ·exact rBottomV_spec 16 (by omega) s h S
 ·obtain ⟨k, ins⟩ := s
  replace h : isF 16 (.mk k ins) = false := by simpa using h
  have hbot : BottomF (.mk k ins) = noV := by unfold BottomF; rw [if_neg (by simp [h])]
  refine mcalls_body Tryz.func37 rfl Tryz.ntmps37 (Nat.le_of_ble_eq_true rfl) ?_
  refine mwp_seq <| qR rfl <| qB rfl rfl rfl rfl rfl <| qO rfl <| op_alloc' rfl zm30 rfl rfl <| qN <| mwp_seq <| mwp_seq <| qR rfl <| qL rfl rfl rfl rfl ta24 rfl ?_
  refine wOps_op rfl (op_call rfl rfl rfl co36 ((rIsSchema_spec (.mk k ins) _).mono ?_))
  rintro _ _ ⟨rfl, rfl⟩
  rw [h]
  refine qO rfl <| op_not rfl rfl <| qM rfl rfl rfl <| qS rfl <| qS rfl <| qS rfl <| qP rfl rfl rfl rfl <| qN <| mwp_cond_t rfl (rfl) <| mwp_seq <| qR rfl <| qO rfl <| op_build rfl Tryz.underlying30 zm30 .nil (by kernel_rfl) ?_
  refine qO rfl <| op_store' rfl rfl rfl rfl sz30 rfl rfl (Nat.le_of_ble_eq_true rfl) rfl <| qN <| mwp_ret ?_
  rw [hbot]
  exact ret_cell (y := encV (noV)) (.inr rfl) Tryz.results37 rfl rfl ta30 rfl (.agg (.cons (.refl _) (.cons (.refl _) (.cons (.nil _) (.cons (.nil _) (.cons (.nil _) .nil)))))) (cl_encV _ _) ⟨rfl, rfl⟩
theorem rNone_spec (s : Sch) (x : Val) (S : MS) : MCalls Tryz.prog 29 [encS s, encV x] S fun v σ' => v = .bool (noneF s x) ∧ σ' = S := by
 obtain ⟨k, ins⟩ := s
 obtain ⟨n, m, s, c, w⟩ := x
 refine mcalls_body Tryz.func29 rfl Tryz.ntmps29 (Nat.le_of_ble_eq_true rfl) ?_
 refine mwp_seq <| qR rfl <| qB rfl rfl rfl rfl rfl <| qB rfl rfl rfl rfl rfl <| qA rfl rfl rfl <| qN <| mwp_seq ?_
 refine mwp_draw [] [_] mo (by decide) rfl rfl rfl rfl ?_
 refine dO rfl rfl rfl (op_load' rfl rfl rfl ta30 rfl ⟨rfl, rfl⟩) <| dO rfl rfl rfl (op_load' rfl rfl rfl ta24 rfl ⟨rfl, rfl⟩) <| dOps_op rfl rfl (.cons (op_call rfl rfl rfl co37 (rBottom_spec (.mk k ins) _)) .nil) <| dOps_op rfl rfl (.cons (op_call rfl rfl rfl co12 (rSame_spec (.mk n m s c w) (BottomF (.mk k ins)) _)) .nil) <| dO rfl rfl rfl (op_assign rfl rfl ⟨rfl, rfl⟩) <| dOps_nil <| mwp_ret ?_
 exact ret_tmp (.inr rfl) Tryz.results29 rfl (.of_eq (by unfold noneF; congr 1; rw [Bool.eq_iff_iff]; simp only [decide_eq_true_eq]; exact eq_comm)) (.bool _) ⟨rfl, rfl⟩
theorem rRises_spec (l : List Bs) (S : MS) : MCalls Tryz.prog 78 [.lst none 1 (l.map encX)] S fun v σ' => v = .bool (risesF l) ∧ σ' = S := by
 refine mcalls_body Tryz.func78 rfl Tryz.ntmps78 (Nat.le_of_ble_eq_true rfl) ?_
 refine mwp_len (t := 0) rfl fun hlen => ?_
 rw [List.length_map] at hlen
 refine mwp_seq <| qR rfl <| qA rfl rfl rfl <| qN <| mwp_seq <| mwp_seq <| qR rfl <| qA rfl rfl rfl <| qN <| mwp_block ?_
 refine mwp_loopK (α := Nat) [(0, _)] (fun j => [(3, .int .i64 ((j + 1 : Nat) : Int))]) (fun j => []) (fun j => j ≤ l.length ∧ ∀ i, i < j → i + 1 < l.length → Op.bytesLess (l.getD i []) (l.getD (i + 1) []) = true) (fun j => l.length + 1 - j) (0) (.keep rfl (.nil)) (.keep rfl (.nil)) (⟨by omega, fun i hi => by omega⟩) (rfl) ?_
 rintro j ⟨hj, hall⟩
 refine mwp_seq <| mwp_seq <| qR rfl <| qM rfl rfl rfl <| qM rfl rfl rfl <| qE rfl rfl Tryz.underlying26 rfl <| qC rfl rfl rfl rfl rfl <| qN ?_
 refine mwp_cond_split rfl (fun h7 => ?_) (fun h7 => ?_)
 ·
  have hlt : j + 1 < l.length := by rw [List.length_map] at h7; simp at h7; omega
  obtain ⟨a, hs⟩ : ∃ a, l[j]? = some a := ⟨_, List.getElem?_eq_getElem (by omega)⟩
  obtain ⟨b, hs2⟩ : ∃ a, l[j + 1]? = some a := ⟨_, List.getElem?_eq_getElem hlt⟩
  have ha : l.getD j [] = a := by simp [hs]
  have hb : l.getD (j + 1) [] = b := by simp [hs2]
  refine mwp_skip <| mwp_seq <| mwp_block <| mwp_seq ?_
  refine mwp_draw [] [_] mo (by decide) rfl rfl rfl rfl ?_
  refine dO rfl rfl rfl (op_move rfl rfl ⟨rfl, rfl⟩) <| dO rfl rfl rfl (op_move rfl rfl ⟨rfl, rfl⟩) <| dO rfl rfl rfl (op_arith rfl rfl rfl (wsub (a := j + 1) (b := 1) (c := j) (by omega) (by simp only [maxLen] at hlen; omega)) ⟨rfl, rfl⟩) ?_
  refine dO rfl rfl rfl (op_indexAddr rfl Tryz.underlying26 sz9 (by decide) rfl rfl rfl (get_map hs) ⟨rfl, rfl⟩) ?_
  refine dO rfl rfl rfl (op_load_sptr rfl rfl ta9 rfl ⟨rfl, rfl⟩) <| dO rfl rfl rfl (op_move rfl rfl ⟨rfl, rfl⟩) <| dO rfl rfl rfl (op_move rfl rfl ⟨rfl, rfl⟩) <| dO rfl rfl rfl (op_indexAddr rfl Tryz.underlying26 sz9 (by decide) rfl rfl rfl (get_map hs2) ⟨rfl, rfl⟩) ?_
  refine dO rfl rfl rfl (op_load_sptr rfl rfl ta9 rfl ⟨rfl, rfl⟩) <| dO rfl rfl rfl (op_strcmp rfl rfl rfl rfl ⟨rfl, rfl⟩) <| dOps_nil ?_
  refine mwp_cond_split rfl (fun h19 => ?_) (fun h19 => ?_)
  ·
   refine mwp_seq <| qR rfl <| qA rfl rfl rfl <| qN <| mwp_ret ?_
   exact ret_tmp (.inr rfl) Tryz.results78 rfl (.of_eq (by congr 1; symm; cases h : risesF l with | false => rfl | true => (have := (rises_iff l).1 h j hlt; rw [ha, hb] at this; simp [this] at h19))) (.bool _) ⟨rfl, rfl⟩
  ·
   refine mwp_skip <| qR rfl <| qM rfl rfl rfl <| qO rfl <| op_arith rfl rfl rfl rfl <| qA rfl rfl rfl <| qN ?_
   refine ⟨j + 1, by omega, ⟨by omega, fun i hi hi2 => ?_⟩, rfl, (.keep rfl (.nil)), (.eq rfl (int_succ hlt hlen) (.nil))⟩
   by_cases e : i = j
   ·subst e; rw [ha, hb]; simpa using h19
   ·exact hall i (by omega) hi2
 ·
  have hge : l.length ≤ j + 1 := by rw [List.length_map] at h7; simp at h7; omega
  refine mwp_exit <| mwp_seq <| qR rfl <| qA rfl rfl rfl <| qN <| mwp_ret ?_
  exact ret_tmp (.inr rfl) Tryz.results78 rfl (.of_eq (by congr 1; symm; exact (rises_iff l).2 fun i hi => hall i (by omega) hi)) (.bool _) ⟨rfl, rfl⟩
theorem rShort_spec (l : List Bs) (S : MS) : MCalls Tryz.prog 123 [.lst none 1 (l.map encX)] S fun v σ' => v = .bool (shortF l) ∧ σ' = S := by
 refine mcalls_body Tryz.func123 rfl Tryz.ntmps123 (Nat.le_of_ble_eq_true rfl) ?_
 refine mwp_len (t := 0) rfl fun hlen => ?_
 rw [List.length_map] at hlen
 refine mwp_seq <| qR rfl <| qA rfl rfl rfl <| qN <| mwp_seq <| mwp_seq <| qR rfl <| qA rfl rfl rfl <| qN <| mwp_block ?_
 refine mwp_loopK (α := Nat) [(0, _)] (fun i => [(3, .int .i64 (i : Int))]) (fun i => []) (fun i => i ≤ l.length ∧ shortF (l.take i) = true) (fun i => l.length - i) (0) (.keep rfl (.nil)) (.keep rfl (.nil)) (⟨by omega, rfl⟩) (rfl) ?_
 rintro i ⟨hi, hall⟩
 refine mwp_seq <| mwp_seq <| qR rfl <| qM rfl rfl rfl <| qM rfl rfl rfl <| qE rfl rfl Tryz.underlying26 rfl <| qC rfl rfl rfl rfl rfl <| qN ?_
 refine mwp_cond_split rfl (fun h7 => ?_) (fun h7 => ?_)
 ·
  have hlt : i < l.length := by simpa using h7
  obtain ⟨s, hs⟩ : ∃ q_, l[i]? = some q_ := ⟨_, List.getElem?_eq_getElem hlt⟩
  refine mwp_skip <| mwp_seq <| mwp_block <| mwp_seq <| qR rfl <| qM rfl rfl rfl <| qM rfl rfl rfl <| qO rfl <| op_indexAddr rfl Tryz.underlying26 sz9 (by decide) rfl rfl rfl (get_map hs) ?_
  refine qO rfl <| op_load_sptr rfl rfl ta9 rfl <| qO rfl <| op_len_bs rfl Tryz.underlying9 rfl <| qC rfl rfl rfl rfl rfl <| qN ?_
  refine mwp_cond_split rfl (fun h15 => ?_) (fun h15 => ?_)
  ·
   refine mwp_seq <| qR rfl <| qA rfl rfl rfl <| qN <| mwp_ret ?_
   exact ret_tmp (.inr rfl) Tryz.results123 rfl (.of_eq (by congr 1; symm; unfold shortF; rw [List.all_eq_false]; exact ⟨s, List.mem_of_getElem? hs, by simp at h15; simp; omega⟩)) (.bool _) ⟨rfl, rfl⟩
  ·
   refine mwp_skip <| qR rfl <| qM rfl rfl rfl <| qO rfl <| op_arith rfl rfl rfl rfl <| qA rfl rfl rfl <| qN ?_
   refine ⟨i + 1, by omega, ⟨by omega, ?_⟩, rfl, (.keep rfl (.nil)), (.eq rfl (int_succ hlt hlen) (.nil))⟩
   unfold shortF at hall ⊢
   rw [List.take_add_one, hs, List.all_append, hall]
   simp at h15
   simp
   omega
 ·
  have hge : i = l.length := by simp at h7; omega
  refine mwp_exit <| mwp_seq <| qR rfl <| qA rfl rfl rfl <| qN <| mwp_ret ?_
  exact ret_tmp (.inr rfl) Tryz.results123 rfl (.of_eq (by rw [hge, List.take_length] at hall; rw [hall])) (.bool _) ⟨rfl, rfl⟩
theorem has_spec (n m : Int) (s : List Bs) (c : List (List Tk)) (w : List Val) (f1 f2 f3 f4 f5 : Bool) (S : MS) : MCalls Tryz.prog 122 [encV (.mk n m s c w), .bool f1, .bool f2, .bool f3, .bool f4, .bool f5] S fun v σ' => v = .bool (hasF (.mk n m s c w) f1 f2 f3 f4 f5) ∧ σ' = S := by
 refine mcalls_body Tryz.func122 rfl Tryz.ntmps122 (Nat.le_of_ble_eq_true rfl) ?_
 refine mwp_seq <| qR rfl <| qB rfl rfl rfl rfl rfl <| qA rfl rfl rfl <| qN <| mwp_seq <| qR rfl <| qM rfl rfl rfl <| qM rfl rfl rfl ?_
 refine wOps_case (fun h14 => ?_) (fun h14 => ?_)
 ·
  refine qS rfl <| qS rfl <| qS rfl <| qP rfl rfl rfl rfl <| qM rfl rfl rfl <| qM rfl rfl rfl <| qM rfl rfl rfl ?_
  refine wOps_case (fun h21 => ?_) (fun h21 => ?_)
  ·
   refine qS rfl <| qS rfl <| qS rfl <| qP rfl rfl rfl rfl <| qP rfl rfl rfl rfl <| qM rfl rfl rfl <| qM rfl rfl rfl <| qM rfl rfl rfl ?_
   refine wOps_case (fun h29 => ?_) (fun h29 => ?_)
   ·
    refine qS rfl <| qS rfl <| qS rfl <| qS rfl <| qP rfl rfl rfl rfl <| qP rfl rfl rfl rfl <| qM rfl rfl rfl <| qM rfl rfl rfl <| qM rfl rfl rfl ?_
    refine wOps_case (fun h38 => ?_) (fun h38 => ?_)
    ·
     refine qS rfl <| qS rfl <| qS rfl <| qS rfl <| qP rfl rfl rfl rfl <| qP rfl rfl rfl rfl <| qM rfl rfl rfl <| qM rfl rfl rfl <| qM rfl rfl rfl ?_
     refine wOps_case (fun h47 => ?_) (fun h47 => ?_)
     ·
      refine qS rfl <| qS rfl <| qS rfl <| qS rfl <| qP rfl rfl rfl rfl <| qP rfl rfl rfl rfl <| qA rfl rfl rfl <| qN <| mwp_ret ?_
      exact ret_tmp (.inr rfl) Tryz.results122 rfl (.of_eq (by congr 1; rw [Bool.eq_iff_iff]; simp_all [hasF, Val.nv, Val.mv, Val.sv, Val.cv, Val.vv])) (.bool _) ⟨rfl, rfl⟩
     ·
      refine qF rfl rfl rfl fo30_4 <| qL rfl rfl rfl rfl ta28 rfl <| qE rfl rfl Tryz.underlying28 rfl ?_
      try rw [encVs_length]
      refine qC rfl rfl rfl rfl rfl <| qP rfl rfl rfl rfl <| qP rfl rfl rfl rfl <| qA rfl rfl rfl <| qN <| mwp_ret ?_
      exact ret_tmp (.inr rfl) Tryz.results122 rfl (.of_eq (by congr 1; rw [Bool.eq_iff_iff]; simp_all [hasF, Val.nv, Val.mv, Val.sv, Val.cv, Val.vv])) (.bool _) ⟨rfl, rfl⟩
    ·
     refine qF rfl rfl rfl fo30_3 <| qL rfl rfl rfl rfl ta27 rfl <| qE rfl rfl Tryz.underlying27 rfl <| qC rfl rfl rfl rfl rfl <| qP rfl rfl rfl rfl <| qP rfl rfl rfl rfl <| qM rfl rfl rfl ?_
     refine wOps_case (fun h45 => ?_) (fun h45 => ?_)
     ·
      refine qM rfl rfl rfl <| qM rfl rfl rfl ?_
      refine wOps_case (fun h47 => ?_) (fun h47 => ?_)
      ·
       refine qS rfl <| qS rfl <| qS rfl <| qS rfl <| qP rfl rfl rfl rfl <| qP rfl rfl rfl rfl <| qA rfl rfl rfl <| qN <| mwp_ret ?_
       exact ret_tmp (.inr rfl) Tryz.results122 rfl (.of_eq (by congr 1; rw [Bool.eq_iff_iff]; simp_all [hasF, Val.nv, Val.mv, Val.sv, Val.cv, Val.vv])) (.bool _) ⟨rfl, rfl⟩
      ·
       refine qF rfl rfl rfl fo30_4 <| qL rfl rfl rfl rfl ta28 rfl <| qE rfl rfl Tryz.underlying28 rfl ?_
       try rw [encVs_length]
       refine qC rfl rfl rfl rfl rfl <| qP rfl rfl rfl rfl <| qP rfl rfl rfl rfl <| qA rfl rfl rfl <| qN <| mwp_ret ?_
       exact ret_tmp (.inr rfl) Tryz.results122 rfl (.of_eq (by congr 1; rw [Bool.eq_iff_iff]; simp_all [hasF, Val.nv, Val.mv, Val.sv, Val.cv, Val.vv])) (.bool _) ⟨rfl, rfl⟩
     ·
      refine qS rfl <| qS rfl <| qS rfl <| qS rfl <| qS rfl <| qS rfl <| qS rfl <| qP rfl rfl rfl rfl <| qA rfl rfl rfl <| qN <| mwp_ret ?_
      exact ret_tmp (.inr rfl) Tryz.results122 rfl (.of_eq (by congr 1; rw [Bool.eq_iff_iff]; simp_all [hasF, Val.nv, Val.mv, Val.sv, Val.cv, Val.vv])) (.bool _) ⟨rfl, rfl⟩
   ·
    refine qF rfl rfl rfl fo30_2 <| qL rfl rfl rfl rfl ta26 rfl <| qE rfl rfl Tryz.underlying26 rfl <| qC rfl rfl rfl rfl rfl <| qP rfl rfl rfl rfl <| qP rfl rfl rfl rfl <| qM rfl rfl rfl ?_
    refine wOps_case (fun h36 => ?_) (fun h36 => ?_)
    ·
     refine qM rfl rfl rfl <| qM rfl rfl rfl ?_
     refine wOps_case (fun h38 => ?_) (fun h38 => ?_)
     ·
      refine qS rfl <| qS rfl <| qS rfl <| qS rfl <| qP rfl rfl rfl rfl <| qP rfl rfl rfl rfl <| qM rfl rfl rfl <| qM rfl rfl rfl <| qM rfl rfl rfl ?_
      refine wOps_case (fun h47 => ?_) (fun h47 => ?_)
      ·
       refine qS rfl <| qS rfl <| qS rfl <| qS rfl <| qP rfl rfl rfl rfl <| qP rfl rfl rfl rfl <| qA rfl rfl rfl <| qN <| mwp_ret ?_
       exact ret_tmp (.inr rfl) Tryz.results122 rfl (.of_eq (by congr 1; rw [Bool.eq_iff_iff]; simp_all [hasF, Val.nv, Val.mv, Val.sv, Val.cv, Val.vv])) (.bool _) ⟨rfl, rfl⟩
      ·
       refine qF rfl rfl rfl fo30_4 <| qL rfl rfl rfl rfl ta28 rfl <| qE rfl rfl Tryz.underlying28 rfl ?_
       try rw [encVs_length]
       refine qC rfl rfl rfl rfl rfl <| qP rfl rfl rfl rfl <| qP rfl rfl rfl rfl <| qA rfl rfl rfl <| qN <| mwp_ret ?_
       exact ret_tmp (.inr rfl) Tryz.results122 rfl (.of_eq (by congr 1; rw [Bool.eq_iff_iff]; simp_all [hasF, Val.nv, Val.mv, Val.sv, Val.cv, Val.vv])) (.bool _) ⟨rfl, rfl⟩
     ·
      refine qF rfl rfl rfl fo30_3 <| qL rfl rfl rfl rfl ta27 rfl <| qE rfl rfl Tryz.underlying27 rfl <| qC rfl rfl rfl rfl rfl <| qP rfl rfl rfl rfl <| qP rfl rfl rfl rfl <| qM rfl rfl rfl ?_
      refine wOps_case (fun h45 => ?_) (fun h45 => ?_)
      ·
       refine qM rfl rfl rfl <| qM rfl rfl rfl ?_
       refine wOps_case (fun h47 => ?_) (fun h47 => ?_)
       ·
        refine qS rfl <| qS rfl <| qS rfl <| qS rfl <| qP rfl rfl rfl rfl <| qP rfl rfl rfl rfl <| qA rfl rfl rfl <| qN <| mwp_ret ?_
        exact ret_tmp (.inr rfl) Tryz.results122 rfl (.of_eq (by congr 1; rw [Bool.eq_iff_iff]; simp_all [hasF, Val.nv, Val.mv, Val.sv, Val.cv, Val.vv])) (.bool _) ⟨rfl, rfl⟩
       ·
        refine qF rfl rfl rfl fo30_4 <| qL rfl rfl rfl rfl ta28 rfl <| qE rfl rfl Tryz.underlying28 rfl ?_
        try rw [encVs_length]
        refine qC rfl rfl rfl rfl rfl <| qP rfl rfl rfl rfl <| qP rfl rfl rfl rfl <| qA rfl rfl rfl <| qN <| mwp_ret ?_
        exact ret_tmp (.inr rfl) Tryz.results122 rfl (.of_eq (by congr 1; rw [Bool.eq_iff_iff]; simp_all [hasF, Val.nv, Val.mv, Val.sv, Val.cv, Val.vv])) (.bool _) ⟨rfl, rfl⟩
      ·
       refine qS rfl <| qS rfl <| qS rfl <| qS rfl <| qS rfl <| qS rfl <| qS rfl <| qP rfl rfl rfl rfl <| qA rfl rfl rfl <| qN <| mwp_ret ?_
       exact ret_tmp (.inr rfl) Tryz.results122 rfl (.of_eq (by congr 1; rw [Bool.eq_iff_iff]; simp_all [hasF, Val.nv, Val.mv, Val.sv, Val.cv, Val.vv])) (.bool _) ⟨rfl, rfl⟩
    ·
     refine qS rfl <| qS rfl <| qS rfl <| qS rfl <| qS rfl <| qS rfl <| qS rfl <| qP rfl rfl rfl rfl <| qM rfl rfl rfl <| qS rfl <| qS rfl <| qS rfl <| qS rfl <| qS rfl <| qS rfl <| qS rfl <| qP rfl rfl rfl rfl <| qA rfl rfl rfl <| qN <| mwp_ret ?_
     exact ret_tmp (.inr rfl) Tryz.results122 rfl (.of_eq (by congr 1; rw [Bool.eq_iff_iff]; simp_all [hasF, Val.nv, Val.mv, Val.sv, Val.cv, Val.vv])) (.bool _) ⟨rfl, rfl⟩
  ·
   refine qF rfl rfl rfl fo30_1 <| qL rfl rfl rfl rfl ta25 rfl <| qC rfl rfl rfl rfl rfl <| qP rfl rfl rfl rfl <| qP rfl rfl rfl rfl <| qM rfl rfl rfl ?_
   refine wOps_case (fun h27 => ?_) (fun h27 => ?_)
   ·
    refine qM rfl rfl rfl <| qM rfl rfl rfl ?_
    refine wOps_case (fun h29 => ?_) (fun h29 => ?_)
    ·
     refine qS rfl <| qS rfl <| qS rfl <| qS rfl <| qP rfl rfl rfl rfl <| qP rfl rfl rfl rfl <| qM rfl rfl rfl <| qM rfl rfl rfl <| qM rfl rfl rfl ?_
     refine wOps_case (fun h38 => ?_) (fun h38 => ?_)
     ·
      refine qS rfl <| qS rfl <| qS rfl <| qS rfl <| qP rfl rfl rfl rfl <| qP rfl rfl rfl rfl <| qM rfl rfl rfl <| qM rfl rfl rfl <| qM rfl rfl rfl ?_
      refine wOps_case (fun h47 => ?_) (fun h47 => ?_)
      ·
       refine qS rfl <| qS rfl <| qS rfl <| qS rfl <| qP rfl rfl rfl rfl <| qP rfl rfl rfl rfl <| qA rfl rfl rfl <| qN <| mwp_ret ?_
       exact ret_tmp (.inr rfl) Tryz.results122 rfl (.of_eq (by congr 1; rw [Bool.eq_iff_iff]; simp_all [hasF, Val.nv, Val.mv, Val.sv, Val.cv, Val.vv])) (.bool _) ⟨rfl, rfl⟩
      ·
       refine qF rfl rfl rfl fo30_4 <| qL rfl rfl rfl rfl ta28 rfl <| qE rfl rfl Tryz.underlying28 rfl ?_
       try rw [encVs_length]
       refine qC rfl rfl rfl rfl rfl <| qP rfl rfl rfl rfl <| qP rfl rfl rfl rfl <| qA rfl rfl rfl <| qN <| mwp_ret ?_
       exact ret_tmp (.inr rfl) Tryz.results122 rfl (.of_eq (by congr 1; rw [Bool.eq_iff_iff]; simp_all [hasF, Val.nv, Val.mv, Val.sv, Val.cv, Val.vv])) (.bool _) ⟨rfl, rfl⟩
     ·
      refine qF rfl rfl rfl fo30_3 <| qL rfl rfl rfl rfl ta27 rfl <| qE rfl rfl Tryz.underlying27 rfl <| qC rfl rfl rfl rfl rfl <| qP rfl rfl rfl rfl <| qP rfl rfl rfl rfl <| qM rfl rfl rfl ?_
      refine wOps_case (fun h45 => ?_) (fun h45 => ?_)
      ·
       refine qM rfl rfl rfl <| qM rfl rfl rfl ?_
       refine wOps_case (fun h47 => ?_) (fun h47 => ?_)
       ·
        refine qS rfl <| qS rfl <| qS rfl <| qS rfl <| qP rfl rfl rfl rfl <| qP rfl rfl rfl rfl <| qA rfl rfl rfl <| qN <| mwp_ret ?_
        exact ret_tmp (.inr rfl) Tryz.results122 rfl (.of_eq (by congr 1; rw [Bool.eq_iff_iff]; simp_all [hasF, Val.nv, Val.mv, Val.sv, Val.cv, Val.vv])) (.bool _) ⟨rfl, rfl⟩
       ·
        refine qF rfl rfl rfl fo30_4 <| qL rfl rfl rfl rfl ta28 rfl <| qE rfl rfl Tryz.underlying28 rfl ?_
        try rw [encVs_length]
        refine qC rfl rfl rfl rfl rfl <| qP rfl rfl rfl rfl <| qP rfl rfl rfl rfl <| qA rfl rfl rfl <| qN <| mwp_ret ?_
        exact ret_tmp (.inr rfl) Tryz.results122 rfl (.of_eq (by congr 1; rw [Bool.eq_iff_iff]; simp_all [hasF, Val.nv, Val.mv, Val.sv, Val.cv, Val.vv])) (.bool _) ⟨rfl, rfl⟩
      ·
       refine qS rfl <| qS rfl <| qS rfl <| qS rfl <| qS rfl <| qS rfl <| qS rfl <| qP rfl rfl rfl rfl <| qA rfl rfl rfl <| qN <| mwp_ret ?_
       exact ret_tmp (.inr rfl) Tryz.results122 rfl (.of_eq (by congr 1; rw [Bool.eq_iff_iff]; simp_all [hasF, Val.nv, Val.mv, Val.sv, Val.cv, Val.vv])) (.bool _) ⟨rfl, rfl⟩
    ·
     refine qF rfl rfl rfl fo30_2 <| qL rfl rfl rfl rfl ta26 rfl <| qE rfl rfl Tryz.underlying26 rfl <| qC rfl rfl rfl rfl rfl <| qP rfl rfl rfl rfl <| qP rfl rfl rfl rfl <| qM rfl rfl rfl ?_
     refine wOps_case (fun h36 => ?_) (fun h36 => ?_)
     ·
      refine qM rfl rfl rfl <| qM rfl rfl rfl ?_
      refine wOps_case (fun h38 => ?_) (fun h38 => ?_)
      ·
       refine qS rfl <| qS rfl <| qS rfl <| qS rfl <| qP rfl rfl rfl rfl <| qP rfl rfl rfl rfl <| qM rfl rfl rfl <| qM rfl rfl rfl <| qM rfl rfl rfl ?_
       refine wOps_case (fun h47 => ?_) (fun h47 => ?_)
       ·
        refine qS rfl <| qS rfl <| qS rfl <| qS rfl <| qP rfl rfl rfl rfl <| qP rfl rfl rfl rfl <| qA rfl rfl rfl <| qN <| mwp_ret ?_
        exact ret_tmp (.inr rfl) Tryz.results122 rfl (.of_eq (by congr 1; rw [Bool.eq_iff_iff]; simp_all [hasF, Val.nv, Val.mv, Val.sv, Val.cv, Val.vv])) (.bool _) ⟨rfl, rfl⟩
       ·
        refine qF rfl rfl rfl fo30_4 <| qL rfl rfl rfl rfl ta28 rfl <| qE rfl rfl Tryz.underlying28 rfl ?_
        try rw [encVs_length]
        refine qC rfl rfl rfl rfl rfl <| qP rfl rfl rfl rfl <| qP rfl rfl rfl rfl <| qA rfl rfl rfl <| qN <| mwp_ret ?_
        exact ret_tmp (.inr rfl) Tryz.results122 rfl (.of_eq (by congr 1; rw [Bool.eq_iff_iff]; simp_all [hasF, Val.nv, Val.mv, Val.sv, Val.cv, Val.vv])) (.bool _) ⟨rfl, rfl⟩
      ·
       refine qF rfl rfl rfl fo30_3 <| qL rfl rfl rfl rfl ta27 rfl <| qE rfl rfl Tryz.underlying27 rfl <| qC rfl rfl rfl rfl rfl <| qP rfl rfl rfl rfl <| qP rfl rfl rfl rfl <| qM rfl rfl rfl ?_
       refine wOps_case (fun h45 => ?_) (fun h45 => ?_)
       ·
        refine qM rfl rfl rfl <| qM rfl rfl rfl ?_
        refine wOps_case (fun h47 => ?_) (fun h47 => ?_)
        ·
         refine qS rfl <| qS rfl <| qS rfl <| qS rfl <| qP rfl rfl rfl rfl <| qP rfl rfl rfl rfl <| qA rfl rfl rfl <| qN <| mwp_ret ?_
         exact ret_tmp (.inr rfl) Tryz.results122 rfl (.of_eq (by congr 1; rw [Bool.eq_iff_iff]; simp_all [hasF, Val.nv, Val.mv, Val.sv, Val.cv, Val.vv])) (.bool _) ⟨rfl, rfl⟩
        ·
         refine qF rfl rfl rfl fo30_4 <| qL rfl rfl rfl rfl ta28 rfl <| qE rfl rfl Tryz.underlying28 rfl ?_
         try rw [encVs_length]
         refine qC rfl rfl rfl rfl rfl <| qP rfl rfl rfl rfl <| qP rfl rfl rfl rfl <| qA rfl rfl rfl <| qN <| mwp_ret ?_
         exact ret_tmp (.inr rfl) Tryz.results122 rfl (.of_eq (by congr 1; rw [Bool.eq_iff_iff]; simp_all [hasF, Val.nv, Val.mv, Val.sv, Val.cv, Val.vv])) (.bool _) ⟨rfl, rfl⟩
       ·
        refine qS rfl <| qS rfl <| qS rfl <| qS rfl <| qS rfl <| qS rfl <| qS rfl <| qP rfl rfl rfl rfl <| qA rfl rfl rfl <| qN <| mwp_ret ?_
        exact ret_tmp (.inr rfl) Tryz.results122 rfl (.of_eq (by congr 1; rw [Bool.eq_iff_iff]; simp_all [hasF, Val.nv, Val.mv, Val.sv, Val.cv, Val.vv])) (.bool _) ⟨rfl, rfl⟩
     ·
      refine qS rfl <| qS rfl <| qS rfl <| qS rfl <| qS rfl <| qS rfl <| qS rfl <| qP rfl rfl rfl rfl <| qM rfl rfl rfl <| qS rfl <| qS rfl <| qS rfl <| qS rfl <| qS rfl <| qS rfl <| qS rfl <| qP rfl rfl rfl rfl <| qA rfl rfl rfl <| qN <| mwp_ret ?_
      exact ret_tmp (.inr rfl) Tryz.results122 rfl (.of_eq (by congr 1; rw [Bool.eq_iff_iff]; simp_all [hasF, Val.nv, Val.mv, Val.sv, Val.cv, Val.vv])) (.bool _) ⟨rfl, rfl⟩
   ·
    refine qS rfl <| qS rfl <| qS rfl <| qS rfl <| qS rfl <| qS rfl <| qS rfl <| qP rfl rfl rfl rfl <| qM rfl rfl rfl <| qS rfl <| qS rfl <| qS rfl <| qS rfl <| qS rfl <| qS rfl <| qS rfl <| qP rfl rfl rfl rfl <| qM rfl rfl rfl <| qS rfl <| qS rfl <| qS rfl <| qS rfl <| qS rfl <| qS rfl <| qS rfl <| qP rfl rfl rfl rfl ?_
    refine qA rfl rfl rfl <| qN <| mwp_ret ?_
    exact ret_tmp (.inr rfl) Tryz.results122 rfl (.of_eq (by congr 1; rw [Bool.eq_iff_iff]; simp_all [hasF, Val.nv, Val.mv, Val.sv, Val.cv, Val.vv])) (.bool _) ⟨rfl, rfl⟩
 ·
  refine qF rfl rfl rfl fo30_0 <| qL rfl rfl rfl rfl ta25 rfl <| qC rfl rfl rfl rfl rfl <| qP rfl rfl rfl rfl <| qM rfl rfl rfl ?_
  refine wOps_case (fun h19 => ?_) (fun h19 => ?_)
  ·
   refine qM rfl rfl rfl <| qM rfl rfl rfl ?_
   refine wOps_case (fun h21 => ?_) (fun h21 => ?_)
   ·
    refine qS rfl <| qS rfl <| qS rfl <| qP rfl rfl rfl rfl <| qP rfl rfl rfl rfl <| qM rfl rfl rfl <| qM rfl rfl rfl <| qM rfl rfl rfl ?_
    refine wOps_case (fun h29 => ?_) (fun h29 => ?_)
    ·
     refine qS rfl <| qS rfl <| qS rfl <| qS rfl <| qP rfl rfl rfl rfl <| qP rfl rfl rfl rfl <| qM rfl rfl rfl <| qM rfl rfl rfl <| qM rfl rfl rfl ?_
     refine wOps_case (fun h38 => ?_) (fun h38 => ?_)
     ·
      refine qS rfl <| qS rfl <| qS rfl <| qS rfl <| qP rfl rfl rfl rfl <| qP rfl rfl rfl rfl <| qM rfl rfl rfl <| qM rfl rfl rfl <| qM rfl rfl rfl ?_
      refine wOps_case (fun h47 => ?_) (fun h47 => ?_)
      ·
       refine qS rfl <| qS rfl <| qS rfl <| qS rfl <| qP rfl rfl rfl rfl <| qP rfl rfl rfl rfl <| qA rfl rfl rfl <| qN <| mwp_ret ?_
       exact ret_tmp (.inr rfl) Tryz.results122 rfl (.of_eq (by congr 1; rw [Bool.eq_iff_iff]; simp_all [hasF, Val.nv, Val.mv, Val.sv, Val.cv, Val.vv])) (.bool _) ⟨rfl, rfl⟩
      ·
       refine qF rfl rfl rfl fo30_4 <| qL rfl rfl rfl rfl ta28 rfl <| qE rfl rfl Tryz.underlying28 rfl ?_
       try rw [encVs_length]
       refine qC rfl rfl rfl rfl rfl <| qP rfl rfl rfl rfl <| qP rfl rfl rfl rfl <| qA rfl rfl rfl <| qN <| mwp_ret ?_
       exact ret_tmp (.inr rfl) Tryz.results122 rfl (.of_eq (by congr 1; rw [Bool.eq_iff_iff]; simp_all [hasF, Val.nv, Val.mv, Val.sv, Val.cv, Val.vv])) (.bool _) ⟨rfl, rfl⟩
     ·
      refine qF rfl rfl rfl fo30_3 <| qL rfl rfl rfl rfl ta27 rfl <| qE rfl rfl Tryz.underlying27 rfl <| qC rfl rfl rfl rfl rfl <| qP rfl rfl rfl rfl <| qP rfl rfl rfl rfl <| qM rfl rfl rfl ?_
      refine wOps_case (fun h45 => ?_) (fun h45 => ?_)
      ·
       refine qM rfl rfl rfl <| qM rfl rfl rfl ?_
       refine wOps_case (fun h47 => ?_) (fun h47 => ?_)
       ·
        refine qS rfl <| qS rfl <| qS rfl <| qS rfl <| qP rfl rfl rfl rfl <| qP rfl rfl rfl rfl <| qA rfl rfl rfl <| qN <| mwp_ret ?_
        exact ret_tmp (.inr rfl) Tryz.results122 rfl (.of_eq (by congr 1; rw [Bool.eq_iff_iff]; simp_all [hasF, Val.nv, Val.mv, Val.sv, Val.cv, Val.vv])) (.bool _) ⟨rfl, rfl⟩
       ·
        refine qF rfl rfl rfl fo30_4 <| qL rfl rfl rfl rfl ta28 rfl <| qE rfl rfl Tryz.underlying28 rfl ?_
        try rw [encVs_length]
        refine qC rfl rfl rfl rfl rfl <| qP rfl rfl rfl rfl <| qP rfl rfl rfl rfl <| qA rfl rfl rfl <| qN <| mwp_ret ?_
        exact ret_tmp (.inr rfl) Tryz.results122 rfl (.of_eq (by congr 1; rw [Bool.eq_iff_iff]; simp_all [hasF, Val.nv, Val.mv, Val.sv, Val.cv, Val.vv])) (.bool _) ⟨rfl, rfl⟩
      ·
       refine qS rfl <| qS rfl <| qS rfl <| qS rfl <| qS rfl <| qS rfl <| qS rfl <| qP rfl rfl rfl rfl <| qA rfl rfl rfl <| qN <| mwp_ret ?_
       exact ret_tmp (.inr rfl) Tryz.results122 rfl (.of_eq (by congr 1; rw [Bool.eq_iff_iff]; simp_all [hasF, Val.nv, Val.mv, Val.sv, Val.cv, Val.vv])) (.bool _) ⟨rfl, rfl⟩
    ·
     refine qF rfl rfl rfl fo30_2 <| qL rfl rfl rfl rfl ta26 rfl <| qE rfl rfl Tryz.underlying26 rfl <| qC rfl rfl rfl rfl rfl <| qP rfl rfl rfl rfl <| qP rfl rfl rfl rfl <| qM rfl rfl rfl ?_
     refine wOps_case (fun h36 => ?_) (fun h36 => ?_)
     ·
      refine qM rfl rfl rfl <| qM rfl rfl rfl ?_
      refine wOps_case (fun h38 => ?_) (fun h38 => ?_)
      ·
       refine qS rfl <| qS rfl <| qS rfl <| qS rfl <| qP rfl rfl rfl rfl <| qP rfl rfl rfl rfl <| qM rfl rfl rfl <| qM rfl rfl rfl <| qM rfl rfl rfl ?_
       refine wOps_case (fun h47 => ?_) (fun h47 => ?_)
       ·
        refine qS rfl <| qS rfl <| qS rfl <| qS rfl <| qP rfl rfl rfl rfl <| qP rfl rfl rfl rfl <| qA rfl rfl rfl <| qN <| mwp_ret ?_
        exact ret_tmp (.inr rfl) Tryz.results122 rfl (.of_eq (by congr 1; rw [Bool.eq_iff_iff]; simp_all [hasF, Val.nv, Val.mv, Val.sv, Val.cv, Val.vv])) (.bool _) ⟨rfl, rfl⟩
       ·
        refine qF rfl rfl rfl fo30_4 <| qL rfl rfl rfl rfl ta28 rfl <| qE rfl rfl Tryz.underlying28 rfl ?_
        try rw [encVs_length]
        refine qC rfl rfl rfl rfl rfl <| qP rfl rfl rfl rfl <| qP rfl rfl rfl rfl <| qA rfl rfl rfl <| qN <| mwp_ret ?_
        exact ret_tmp (.inr rfl) Tryz.results122 rfl (.of_eq (by congr 1; rw [Bool.eq_iff_iff]; simp_all [hasF, Val.nv, Val.mv, Val.sv, Val.cv, Val.vv])) (.bool _) ⟨rfl, rfl⟩
      ·
       refine qF rfl rfl rfl fo30_3 <| qL rfl rfl rfl rfl ta27 rfl <| qE rfl rfl Tryz.underlying27 rfl <| qC rfl rfl rfl rfl rfl <| qP rfl rfl rfl rfl <| qP rfl rfl rfl rfl <| qM rfl rfl rfl ?_
       refine wOps_case (fun h45 => ?_) (fun h45 => ?_)
       ·
        refine qM rfl rfl rfl <| qM rfl rfl rfl ?_
        refine wOps_case (fun h47 => ?_) (fun h47 => ?_)
        ·
         refine qS rfl <| qS rfl <| qS rfl <| qS rfl <| qP rfl rfl rfl rfl <| qP rfl rfl rfl rfl <| qA rfl rfl rfl <| qN <| mwp_ret ?_
         exact ret_tmp (.inr rfl) Tryz.results122 rfl (.of_eq (by congr 1; rw [Bool.eq_iff_iff]; simp_all [hasF, Val.nv, Val.mv, Val.sv, Val.cv, Val.vv])) (.bool _) ⟨rfl, rfl⟩
        ·
         refine qF rfl rfl rfl fo30_4 <| qL rfl rfl rfl rfl ta28 rfl <| qE rfl rfl Tryz.underlying28 rfl ?_
         try rw [encVs_length]
         refine qC rfl rfl rfl rfl rfl <| qP rfl rfl rfl rfl <| qP rfl rfl rfl rfl <| qA rfl rfl rfl <| qN <| mwp_ret ?_
         exact ret_tmp (.inr rfl) Tryz.results122 rfl (.of_eq (by congr 1; rw [Bool.eq_iff_iff]; simp_all [hasF, Val.nv, Val.mv, Val.sv, Val.cv, Val.vv])) (.bool _) ⟨rfl, rfl⟩
       ·
        refine qS rfl <| qS rfl <| qS rfl <| qS rfl <| qS rfl <| qS rfl <| qS rfl <| qP rfl rfl rfl rfl <| qA rfl rfl rfl <| qN <| mwp_ret ?_
        exact ret_tmp (.inr rfl) Tryz.results122 rfl (.of_eq (by congr 1; rw [Bool.eq_iff_iff]; simp_all [hasF, Val.nv, Val.mv, Val.sv, Val.cv, Val.vv])) (.bool _) ⟨rfl, rfl⟩
     ·
      refine qS rfl <| qS rfl <| qS rfl <| qS rfl <| qS rfl <| qS rfl <| qS rfl <| qP rfl rfl rfl rfl <| qM rfl rfl rfl <| qS rfl <| qS rfl <| qS rfl <| qS rfl <| qS rfl <| qS rfl <| qS rfl <| qP rfl rfl rfl rfl <| qA rfl rfl rfl <| qN <| mwp_ret ?_
      exact ret_tmp (.inr rfl) Tryz.results122 rfl (.of_eq (by congr 1; rw [Bool.eq_iff_iff]; simp_all [hasF, Val.nv, Val.mv, Val.sv, Val.cv, Val.vv])) (.bool _) ⟨rfl, rfl⟩
   ·
    refine qF rfl rfl rfl fo30_1 <| qL rfl rfl rfl rfl ta25 rfl <| qC rfl rfl rfl rfl rfl <| qP rfl rfl rfl rfl <| qP rfl rfl rfl rfl <| qM rfl rfl rfl ?_
    refine wOps_case (fun h27 => ?_) (fun h27 => ?_)
    ·
     refine qM rfl rfl rfl <| qM rfl rfl rfl ?_
     refine wOps_case (fun h29 => ?_) (fun h29 => ?_)
     ·
      refine qS rfl <| qS rfl <| qS rfl <| qS rfl <| qP rfl rfl rfl rfl <| qP rfl rfl rfl rfl <| qM rfl rfl rfl <| qM rfl rfl rfl <| qM rfl rfl rfl ?_
      refine wOps_case (fun h38 => ?_) (fun h38 => ?_)
      ·
       refine qS rfl <| qS rfl <| qS rfl <| qS rfl <| qP rfl rfl rfl rfl <| qP rfl rfl rfl rfl <| qM rfl rfl rfl <| qM rfl rfl rfl <| qM rfl rfl rfl ?_
       refine wOps_case (fun h47 => ?_) (fun h47 => ?_)
       ·
        refine qS rfl <| qS rfl <| qS rfl <| qS rfl <| qP rfl rfl rfl rfl <| qP rfl rfl rfl rfl <| qA rfl rfl rfl <| qN <| mwp_ret ?_
        exact ret_tmp (.inr rfl) Tryz.results122 rfl (.of_eq (by congr 1; rw [Bool.eq_iff_iff]; simp_all [hasF, Val.nv, Val.mv, Val.sv, Val.cv, Val.vv])) (.bool _) ⟨rfl, rfl⟩
       ·
        refine qF rfl rfl rfl fo30_4 <| qL rfl rfl rfl rfl ta28 rfl <| qE rfl rfl Tryz.underlying28 rfl ?_
        try rw [encVs_length]
        refine qC rfl rfl rfl rfl rfl <| qP rfl rfl rfl rfl <| qP rfl rfl rfl rfl <| qA rfl rfl rfl <| qN <| mwp_ret ?_
        exact ret_tmp (.inr rfl) Tryz.results122 rfl (.of_eq (by congr 1; rw [Bool.eq_iff_iff]; simp_all [hasF, Val.nv, Val.mv, Val.sv, Val.cv, Val.vv])) (.bool _) ⟨rfl, rfl⟩
      ·
       refine qF rfl rfl rfl fo30_3 <| qL rfl rfl rfl rfl ta27 rfl <| qE rfl rfl Tryz.underlying27 rfl <| qC rfl rfl rfl rfl rfl <| qP rfl rfl rfl rfl <| qP rfl rfl rfl rfl <| qM rfl rfl rfl ?_
       refine wOps_case (fun h45 => ?_) (fun h45 => ?_)
       ·
        refine qM rfl rfl rfl <| qM rfl rfl rfl ?_
        refine wOps_case (fun h47 => ?_) (fun h47 => ?_)
        ·
         refine qS rfl <| qS rfl <| qS rfl <| qS rfl <| qP rfl rfl rfl rfl <| qP rfl rfl rfl rfl <| qA rfl rfl rfl <| qN <| mwp_ret ?_
         exact ret_tmp (.inr rfl) Tryz.results122 rfl (.of_eq (by congr 1; rw [Bool.eq_iff_iff]; simp_all [hasF, Val.nv, Val.mv, Val.sv, Val.cv, Val.vv])) (.bool _) ⟨rfl, rfl⟩
        ·
         refine qF rfl rfl rfl fo30_4 <| qL rfl rfl rfl rfl ta28 rfl <| qE rfl rfl Tryz.underlying28 rfl ?_
         try rw [encVs_length]
         refine qC rfl rfl rfl rfl rfl <| qP rfl rfl rfl rfl <| qP rfl rfl rfl rfl <| qA rfl rfl rfl <| qN <| mwp_ret ?_
         exact ret_tmp (.inr rfl) Tryz.results122 rfl (.of_eq (by congr 1; rw [Bool.eq_iff_iff]; simp_all [hasF, Val.nv, Val.mv, Val.sv, Val.cv, Val.vv])) (.bool _) ⟨rfl, rfl⟩
       ·
        refine qS rfl <| qS rfl <| qS rfl <| qS rfl <| qS rfl <| qS rfl <| qS rfl <| qP rfl rfl rfl rfl <| qA rfl rfl rfl <| qN <| mwp_ret ?_
        exact ret_tmp (.inr rfl) Tryz.results122 rfl (.of_eq (by congr 1; rw [Bool.eq_iff_iff]; simp_all [hasF, Val.nv, Val.mv, Val.sv, Val.cv, Val.vv])) (.bool _) ⟨rfl, rfl⟩
     ·
      refine qF rfl rfl rfl fo30_2 <| qL rfl rfl rfl rfl ta26 rfl <| qE rfl rfl Tryz.underlying26 rfl <| qC rfl rfl rfl rfl rfl <| qP rfl rfl rfl rfl <| qP rfl rfl rfl rfl <| qM rfl rfl rfl ?_
      refine wOps_case (fun h36 => ?_) (fun h36 => ?_)
      ·
       refine qM rfl rfl rfl <| qM rfl rfl rfl ?_
       refine wOps_case (fun h38 => ?_) (fun h38 => ?_)
       ·
        refine qS rfl <| qS rfl <| qS rfl <| qS rfl <| qP rfl rfl rfl rfl <| qP rfl rfl rfl rfl <| qM rfl rfl rfl <| qM rfl rfl rfl <| qM rfl rfl rfl ?_
        refine wOps_case (fun h47 => ?_) (fun h47 => ?_)
        ·
         refine qS rfl <| qS rfl <| qS rfl <| qS rfl <| qP rfl rfl rfl rfl <| qP rfl rfl rfl rfl <| qA rfl rfl rfl <| qN <| mwp_ret ?_
         exact ret_tmp (.inr rfl) Tryz.results122 rfl (.of_eq (by congr 1; rw [Bool.eq_iff_iff]; simp_all [hasF, Val.nv, Val.mv, Val.sv, Val.cv, Val.vv])) (.bool _) ⟨rfl, rfl⟩
        ·
         refine qF rfl rfl rfl fo30_4 <| qL rfl rfl rfl rfl ta28 rfl <| qE rfl rfl Tryz.underlying28 rfl ?_
         try rw [encVs_length]
         refine qC rfl rfl rfl rfl rfl <| qP rfl rfl rfl rfl <| qP rfl rfl rfl rfl <| qA rfl rfl rfl <| qN <| mwp_ret ?_
         exact ret_tmp (.inr rfl) Tryz.results122 rfl (.of_eq (by congr 1; rw [Bool.eq_iff_iff]; simp_all [hasF, Val.nv, Val.mv, Val.sv, Val.cv, Val.vv])) (.bool _) ⟨rfl, rfl⟩
       ·
        refine qF rfl rfl rfl fo30_3 <| qL rfl rfl rfl rfl ta27 rfl <| qE rfl rfl Tryz.underlying27 rfl <| qC rfl rfl rfl rfl rfl <| qP rfl rfl rfl rfl <| qP rfl rfl rfl rfl <| qM rfl rfl rfl ?_
        refine wOps_case (fun h45 => ?_) (fun h45 => ?_)
        ·
         refine qM rfl rfl rfl <| qM rfl rfl rfl ?_
         refine wOps_case (fun h47 => ?_) (fun h47 => ?_)
         ·
          refine qS rfl <| qS rfl <| qS rfl <| qS rfl <| qP rfl rfl rfl rfl <| qP rfl rfl rfl rfl <| qA rfl rfl rfl <| qN <| mwp_ret ?_
          exact ret_tmp (.inr rfl) Tryz.results122 rfl (.of_eq (by congr 1; rw [Bool.eq_iff_iff]; simp_all [hasF, Val.nv, Val.mv, Val.sv, Val.cv, Val.vv])) (.bool _) ⟨rfl, rfl⟩
         ·
          refine qF rfl rfl rfl fo30_4 <| qL rfl rfl rfl rfl ta28 rfl <| qE rfl rfl Tryz.underlying28 rfl ?_
          try rw [encVs_length]
          refine qC rfl rfl rfl rfl rfl <| qP rfl rfl rfl rfl <| qP rfl rfl rfl rfl <| qA rfl rfl rfl <| qN <| mwp_ret ?_
          exact ret_tmp (.inr rfl) Tryz.results122 rfl (.of_eq (by congr 1; rw [Bool.eq_iff_iff]; simp_all [hasF, Val.nv, Val.mv, Val.sv, Val.cv, Val.vv])) (.bool _) ⟨rfl, rfl⟩
        ·
         refine qS rfl <| qS rfl <| qS rfl <| qS rfl <| qS rfl <| qS rfl <| qS rfl <| qP rfl rfl rfl rfl <| qA rfl rfl rfl <| qN <| mwp_ret ?_
         exact ret_tmp (.inr rfl) Tryz.results122 rfl (.of_eq (by congr 1; rw [Bool.eq_iff_iff]; simp_all [hasF, Val.nv, Val.mv, Val.sv, Val.cv, Val.vv])) (.bool _) ⟨rfl, rfl⟩
      ·
       refine qS rfl <| qS rfl <| qS rfl <| qS rfl <| qS rfl <| qS rfl <| qS rfl <| qP rfl rfl rfl rfl <| qM rfl rfl rfl <| qS rfl <| qS rfl <| qS rfl <| qS rfl <| qS rfl <| qS rfl <| qS rfl <| qP rfl rfl rfl rfl <| qA rfl rfl rfl <| qN <| mwp_ret ?_
       exact ret_tmp (.inr rfl) Tryz.results122 rfl (.of_eq (by congr 1; rw [Bool.eq_iff_iff]; simp_all [hasF, Val.nv, Val.mv, Val.sv, Val.cv, Val.vv])) (.bool _) ⟨rfl, rfl⟩
    ·
     refine qS rfl <| qS rfl <| qS rfl <| qS rfl <| qS rfl <| qS rfl <| qS rfl <| qP rfl rfl rfl rfl <| qM rfl rfl rfl <| qS rfl <| qS rfl <| qS rfl <| qS rfl <| qS rfl <| qS rfl <| qS rfl <| qP rfl rfl rfl rfl <| qM rfl rfl rfl <| qS rfl <| qS rfl <| qS rfl <| qS rfl <| qS rfl <| qS rfl <| qS rfl <| qP rfl rfl rfl rfl ?_
     refine qA rfl rfl rfl <| qN <| mwp_ret ?_
     exact ret_tmp (.inr rfl) Tryz.results122 rfl (.of_eq (by congr 1; rw [Bool.eq_iff_iff]; simp_all [hasF, Val.nv, Val.mv, Val.sv, Val.cv, Val.vv])) (.bool _) ⟨rfl, rfl⟩
  ·
   refine qS rfl <| qS rfl <| qS rfl <| qS rfl <| qS rfl <| qS rfl <| qP rfl rfl rfl rfl <| qM rfl rfl rfl <| qS rfl <| qS rfl <| qS rfl <| qS rfl <| qS rfl <| qS rfl <| qS rfl <| qP rfl rfl rfl rfl <| qM rfl rfl rfl <| qS rfl <| qS rfl <| qS rfl <| qS rfl <| qS rfl <| qS rfl <| qS rfl <| qP rfl rfl rfl rfl ?_
   refine qM rfl rfl rfl <| qS rfl <| qS rfl <| qS rfl <| qS rfl <| qS rfl <| qS rfl <| qS rfl <| qP rfl rfl rfl rfl <| qA rfl rfl rfl <| qN <| mwp_ret ?_
   exact ret_tmp (.inr rfl) Tryz.results122 rfl (.of_eq (by congr 1; rw [Bool.eq_iff_iff]; simp_all [hasF, Val.nv, Val.mv, Val.sv, Val.cv, Val.vv])) (.bool _) ⟨rfl, rfl⟩
theorem rAhead_spec (a b : List Tk) (S : MS) : MCalls Tryz.prog 111 [.lst none 2 (a.map encT), .lst none 2 (b.map encT)] S fun v σ' => v = .bool (aheadF a b) ∧ σ' = S := by
 refine mcalls_body Tryz.func111 rfl Tryz.ntmps111 (Nat.le_of_ble_eq_true rfl) ?_
 refine mwp_len (t := 0) rfl fun hlen => ?_
 rw [List.length_map] at hlen
 refine mwp_seq <| qR rfl <| qA rfl rfl rfl <| qN <| mwp_seq <| mwp_seq <| qR rfl <| qA rfl rfl rfl <| qN <| mwp_block ?_
 refine mwp_loopK (α := Nat) [(0, _), (1, _)] (fun i => [(5, .int .i64 (i : Int))]) (fun i => []) (fun i => i ≤ a.length ∧ i ≤ b.length ∧ aheadF (a.drop i) (b.drop i) = aheadF a b) (fun i => a.length - i) (0) (.keep rfl (.keep rfl (.nil))) (.keep rfl (.nil)) (⟨by omega, by omega, rfl⟩) (rfl) ?_
 rintro i ⟨hi, hib, he⟩
 refine mwp_seq <| mwp_seq <| qR rfl <| qM rfl rfl rfl <| qM rfl rfl rfl <| qE rfl rfl Tryz.underlying60 rfl <| qC rfl rfl rfl rfl rfl <| qM rfl rfl rfl ?_
 refine wOps_case (fun h10 => ?_) (fun h10 => ?_)
 ·
  have hlt : i < a.length := by rw [List.length_map] at h10; simpa using h10
  obtain ⟨x, hs⟩ : ∃ q, a[i]? = some q := ⟨_, List.getElem?_eq_getElem hlt⟩
  refine qM rfl rfl rfl <| qM rfl rfl rfl <| qE rfl rfl Tryz.underlying60 rfl <| qC rfl rfl rfl rfl rfl <| qP rfl rfl rfl rfl <| qN ?_
  refine mwp_cond_split rfl (fun h15 => ?_) (fun h15 => ?_)
  ·
   have hltb : i < b.length := by rw [List.length_map] at h15; simpa using h15
   obtain ⟨y, hs2⟩ : ∃ q, b[i]? = some q := ⟨_, List.getElem?_eq_getElem hltb⟩
   refine mwp_skip <| mwp_seq <| mwp_block <| mwp_seq <| mwp_seq ?_
   refine mwp_draw [] [_] mo (by decide) rfl rfl rfl rfl ?_
   refine dO rfl rfl rfl (op_move rfl rfl ⟨rfl, rfl⟩) <| dO rfl rfl rfl (op_move rfl rfl ⟨rfl, rfl⟩) <| dO rfl rfl rfl (op_indexAddr rfl Tryz.underlying60 sz59 (by decide) rfl rfl rfl (get_map hs) ⟨rfl, rfl⟩) ?_
   refine dO rfl rfl rfl (op_fieldAddr_sptr rfl rfl fo59_0 ⟨rfl, rfl⟩) <| dO rfl rfl rfl (op_load_sptr rfl rfl ta3 rfl ⟨rfl, rfl⟩) <| dO rfl rfl rfl (op_move rfl rfl ⟨rfl, rfl⟩) <| dO rfl rfl rfl (op_move rfl rfl ⟨rfl, rfl⟩) <| dO rfl rfl rfl (op_indexAddr rfl Tryz.underlying60 sz59 (by decide) rfl rfl rfl (get_map hs2) ⟨rfl, rfl⟩) ?_
   refine dO rfl rfl rfl (op_fieldAddr_sptr rfl rfl fo59_0 ⟨rfl, rfl⟩) <| dO rfl rfl rfl (op_load_sptr rfl rfl ta3 rfl ⟨rfl, rfl⟩) <| dO rfl rfl rfl (op_cmp rfl rfl rfl rfl ⟨rfl, rfl⟩) <| dOps_nil ?_
   refine mwp_cond_split rfl (fun h28 => ?_) (fun h28 => ?_)
   ·
    refine mwp_seq ?_
    refine mwp_draw [] [_] mo (by decide) rfl rfl rfl rfl ?_
    refine dO rfl rfl rfl (op_move rfl rfl ⟨rfl, rfl⟩) <| dO rfl rfl rfl (op_move rfl rfl ⟨rfl, rfl⟩) <| dO rfl rfl rfl (op_indexAddr rfl Tryz.underlying60 sz59 (by decide) rfl rfl rfl (get_map hs) ⟨rfl, rfl⟩) ?_
    refine dO rfl rfl rfl (op_fieldAddr_sptr rfl rfl fo59_0 ⟨rfl, rfl⟩) <| dO rfl rfl rfl (op_load_sptr rfl rfl ta3 rfl ⟨rfl, rfl⟩) <| dO rfl rfl rfl (op_move rfl rfl ⟨rfl, rfl⟩) <| dO rfl rfl rfl (op_move rfl rfl ⟨rfl, rfl⟩) <| dO rfl rfl rfl (op_indexAddr rfl Tryz.underlying60 sz59 (by decide) rfl rfl rfl (get_map hs2) ⟨rfl, rfl⟩) ?_
    refine dO rfl rfl rfl (op_fieldAddr_sptr rfl rfl fo59_0 ⟨rfl, rfl⟩) <| dO rfl rfl rfl (op_load_sptr rfl rfl ta3 rfl ⟨rfl, rfl⟩) <| dO rfl rfl rfl (op_cmp rfl rfl rfl rfl ⟨rfl, rfl⟩) <| dO rfl rfl rfl (op_assign rfl rfl ⟨rfl, rfl⟩) <| dOps_nil <| mwp_ret ?_
    exact ret_tmp (.inr rfl) Tryz.results111 rfl (.of_eq (by rw [← he, drop_at hs, drop_at hs2, aheadF, if_pos (by simpa using h28)])) (.bool _) ⟨rfl, rfl⟩
   ·
    refine mwp_skip <| mwp_seq ?_
    refine mwp_draw [] [_] mo (by decide) rfl rfl rfl rfl ?_
    refine dO rfl rfl rfl (op_move rfl rfl ⟨rfl, rfl⟩) <| dO rfl rfl rfl (op_move rfl rfl ⟨rfl, rfl⟩) <| dO rfl rfl rfl (op_indexAddr rfl Tryz.underlying60 sz59 (by decide) rfl rfl rfl (get_map hs) ⟨rfl, rfl⟩) ?_
    refine dO rfl rfl rfl (op_fieldAddr_sptr rfl rfl fo59_1 ⟨rfl, rfl⟩) <| dO rfl rfl rfl (op_load_sptr rfl rfl ta25 rfl ⟨rfl, rfl⟩) <| dO rfl rfl rfl (op_move rfl rfl ⟨rfl, rfl⟩) <| dO rfl rfl rfl (op_move rfl rfl ⟨rfl, rfl⟩) <| dO rfl rfl rfl (op_indexAddr rfl Tryz.underlying60 sz59 (by decide) rfl rfl rfl (get_map hs2) ⟨rfl, rfl⟩) ?_
    refine dO rfl rfl rfl (op_fieldAddr_sptr rfl rfl fo59_1 ⟨rfl, rfl⟩) <| dO rfl rfl rfl (op_load_sptr rfl rfl ta25 rfl ⟨rfl, rfl⟩) <| dO rfl rfl rfl (op_cmp rfl rfl rfl rfl ⟨rfl, rfl⟩) <| dOps_nil ?_
    refine mwp_cond_split rfl (fun h50 => ?_) (fun h50 => ?_)
    ·
     refine mwp_seq ?_
     refine mwp_draw [] [_] mo (by decide) rfl rfl rfl rfl ?_
     refine dO rfl rfl rfl (op_move rfl rfl ⟨rfl, rfl⟩) <| dO rfl rfl rfl (op_move rfl rfl ⟨rfl, rfl⟩) <| dO rfl rfl rfl (op_indexAddr rfl Tryz.underlying60 sz59 (by decide) rfl rfl rfl (get_map hs) ⟨rfl, rfl⟩) ?_
     refine dO rfl rfl rfl (op_fieldAddr_sptr rfl rfl fo59_1 ⟨rfl, rfl⟩) <| dO rfl rfl rfl (op_load_sptr rfl rfl ta25 rfl ⟨rfl, rfl⟩) <| dO rfl rfl rfl (op_move rfl rfl ⟨rfl, rfl⟩) <| dO rfl rfl rfl (op_move rfl rfl ⟨rfl, rfl⟩) <| dO rfl rfl rfl (op_indexAddr rfl Tryz.underlying60 sz59 (by decide) rfl rfl rfl (get_map hs2) ⟨rfl, rfl⟩) ?_
     refine dO rfl rfl rfl (op_fieldAddr_sptr rfl rfl fo59_1 ⟨rfl, rfl⟩) <| dO rfl rfl rfl (op_load_sptr rfl rfl ta25 rfl ⟨rfl, rfl⟩) <| dO rfl rfl rfl (op_cmp rfl rfl rfl rfl ⟨rfl, rfl⟩) <| dO rfl rfl rfl (op_assign rfl rfl ⟨rfl, rfl⟩) <| dOps_nil <| mwp_ret ?_
     exact ret_tmp (.inr rfl) Tryz.results111 rfl (.of_eq (by rw [← he, drop_at hs, drop_at hs2, aheadF, if_neg (by simpa using h28), if_pos (by simpa using h50)])) (.bool _) ⟨rfl, rfl⟩
    ·
     refine mwp_skip <| qR rfl <| qM rfl rfl rfl <| qO rfl <| op_arith rfl rfl rfl rfl <| qA rfl rfl rfl <| qN ?_
     refine ⟨i + 1, by omega, ⟨by omega, by omega, by rw [← he, drop_at hs, drop_at hs2, aheadF, if_neg (by simpa using h28), if_neg (by simpa using h50)]⟩, rfl, (.keep rfl (.keep rfl (.nil))), (.eq rfl (int_succ hlt hlen) (.nil))⟩
  ·
   have hgb : i = b.length := by rw [List.length_map] at h15; simp at h15; omega
   have hE : aheadF a b = decide ((a.map encT).length < (b.map encT).length) := by rw [← he, hgb, List.drop_length, ahead_nil2]; simp; try omega
   refine mwp_exit <| mwp_seq <| qR rfl <| qM rfl rfl rfl <| qE rfl rfl Tryz.underlying60 rfl <| qM rfl rfl rfl <| qE rfl rfl Tryz.underlying60 rfl <| qC rfl rfl rfl rfl rfl <| qA rfl rfl rfl <| qN <| mwp_ret ?_
   exact ret_tmp (.inr rfl) Tryz.results111 rfl (.of_eq (by rw [hE]; congr 1; rw [Bool.eq_iff_iff]; simp only [decide_eq_true_eq]; omega)) (.bool _) ⟨rfl, rfl⟩
 ·
  have hge : i = a.length := by rw [List.length_map] at h10; simp at h10; omega
  have hE : aheadF a b = decide ((a.map encT).length < (b.map encT).length) := by rw [← he, hge, List.drop_length, ahead_nil]; simp; try omega
  refine qS rfl <| qS rfl <| qS rfl <| qS rfl <| qP rfl rfl rfl rfl <| qN <| mwp_cond_f rfl (rfl) <| mwp_exit <| mwp_seq <| qR rfl <| qM rfl rfl rfl <| qE rfl rfl Tryz.underlying60 rfl <| qM rfl rfl rfl <| qE rfl rfl Tryz.underlying60 rfl <| qC rfl rfl rfl rfl rfl <| qA rfl rfl rfl <| qN <| mwp_ret ?_
  exact ret_tmp (.inr rfl) Tryz.results111 rfl (.of_eq (by rw [hE]; congr 1; rw [Bool.eq_iff_iff]; simp only [decide_eq_true_eq]; omega)) (.bool _) ⟨rfl, rfl⟩
theorem fits_spec (k : Int) (ins : List Sch) (hk : k = 1 ∨ k = 2 ∨ k = 3 ∨ k = 4 ∨ k = 5 ∨ k = 6 ∨ k = 7 ∨ k = 8) (n m : Int) (s : List Bs) (c : List (List Tk)) (w : List Val) (S : MS) : MCalls Tryz.prog 77 [encS (.mk k ins), encV (.mk n m s c w)] S fun v σ' => v = .bool (fitsF k (.mk n m s c w)) ∧ σ' = S := by
 rcases hk with rfl | rfl | rfl | rfl | rfl | rfl | rfl | rfl
 ·
  refine mcalls_body Tryz.func77 rfl Tryz.ntmps77 (Nat.le_of_ble_eq_true rfl) ?_
  refine mwp_seq <| qR rfl <| qB rfl rfl rfl rfl rfl <| qB rfl rfl rfl rfl rfl <| qA rfl rfl rfl <| qN <| mwp_seq <| mwp_seq <| qR rfl <| qF rfl rfl rfl fo24_0 <| qL rfl rfl rfl rfl ta3 rfl <| qN <| mwp_block <| mwp_seq <| qR rfl <| qC rfl rfl rfl rfl rfl <| qA rfl rfl rfl <| qN <| mwp_cond_t rfl (rfl) <| mwp_seq <| qR rfl <| qL rfl rfl rfl rfl ta30 rfl ?_
  refine wOps_op rfl (op_call rfl rfl rfl co122 ((has_spec n m _ c w true false false false false _).mono ?_))
  rintro _ _ ⟨rfl, rfl⟩
  refine qA rfl rfl rfl <| qN <| mwp_ret ?_
  exact ret_tmp (.inr rfl) Tryz.results77 rfl (.of_eq (by rw [fits_mk 1]; first | rfl | (congr 1; rw [Bool.eq_iff_iff]; simp_all [encVs_length]; done) | (congr 1; rw [Bool.eq_iff_iff]; simp_all [encVs_length]; omega))) (.bool _) ⟨rfl, rfl⟩
 ·
  refine mcalls_body Tryz.func77 rfl Tryz.ntmps77 (Nat.le_of_ble_eq_true rfl) ?_
  refine mwp_seq <| qR rfl <| qB rfl rfl rfl rfl rfl <| qB rfl rfl rfl rfl rfl <| qA rfl rfl rfl <| qN <| mwp_seq <| mwp_seq <| qR rfl <| qF rfl rfl rfl fo24_0 <| qL rfl rfl rfl rfl ta3 rfl <| qN <| mwp_block <| mwp_seq <| qR rfl <| qC rfl rfl rfl rfl rfl <| qA rfl rfl rfl <| qN <| mwp_cond_f rfl (rfl) <| mwp_seq <| qR rfl <| qC rfl rfl rfl rfl rfl ?_
  refine qA rfl rfl rfl <| qN <| mwp_cond_t rfl (rfl) <| mwp_seq <| qR rfl <| qL rfl rfl rfl rfl ta30 rfl ?_
  refine wOps_op rfl (op_call rfl rfl rfl co122 ((has_spec n m _ c w true false false false false _).mono ?_))
  rintro _ _ ⟨rfl, rfl⟩
  refine qM rfl rfl rfl ?_
  refine wOps_case (fun h15 => ?_) (fun h15 => ?_)
  ·
   refine qF rfl rfl rfl fo30_0 <| qL rfl rfl rfl rfl ta25 rfl <| qC rfl rfl rfl rfl rfl <| qP rfl rfl rfl rfl <| qA rfl rfl rfl <| qN <| mwp_ret ?_
   exact ret_tmp (.inr rfl) Tryz.results77 rfl (.of_eq (by rw [fits_mk 2]; first | rfl | (congr 1; rw [Bool.eq_iff_iff]; simp_all [encVs_length]; done) | (congr 1; rw [Bool.eq_iff_iff]; simp_all [encVs_length]; omega))) (.bool _) ⟨rfl, rfl⟩
  ·
   refine qS rfl <| qS rfl <| qS rfl <| qP rfl rfl rfl rfl <| qA rfl rfl rfl <| qN <| mwp_ret ?_
   exact ret_tmp (.inr rfl) Tryz.results77 rfl (.of_eq (by rw [fits_mk 2]; first | rfl | (congr 1; rw [Bool.eq_iff_iff]; simp_all [encVs_length]; done) | (congr 1; rw [Bool.eq_iff_iff]; simp_all [encVs_length]; omega))) (.bool _) ⟨rfl, rfl⟩
 ·
  refine mcalls_body Tryz.func77 rfl Tryz.ntmps77 (Nat.le_of_ble_eq_true rfl) ?_
  refine mwp_seq <| qR rfl <| qB rfl rfl rfl rfl rfl <| qB rfl rfl rfl rfl rfl <| qA rfl rfl rfl <| qN <| mwp_seq <| mwp_seq <| qR rfl <| qF rfl rfl rfl fo24_0 <| qL rfl rfl rfl rfl ta3 rfl <| qN <| mwp_block <| mwp_seq <| qR rfl <| qC rfl rfl rfl rfl rfl <| qA rfl rfl rfl <| qN <| mwp_cond_f rfl (rfl) <| mwp_seq <| qR rfl <| qC rfl rfl rfl rfl rfl ?_
  refine qA rfl rfl rfl <| qN <| mwp_cond_f rfl (rfl) <| mwp_seq <| qR rfl <| qC rfl rfl rfl rfl rfl <| qA rfl rfl rfl <| qN <| mwp_cond_t rfl (rfl) <| mwp_seq <| qR rfl <| qL rfl rfl rfl rfl ta30 rfl ?_
  refine wOps_op rfl (op_call rfl rfl rfl co122 ((has_spec n m _ c w false false true false false _).mono ?_))
  rintro _ _ ⟨rfl, rfl⟩
  refine qM rfl rfl rfl ?_
  refine wOps_case (fun h24 => ?_) (fun h24 => ?_)
  ·
   refine qF rfl rfl rfl fo30_2 <| qL rfl rfl rfl rfl ta26 rfl ?_
   refine wOps_op rfl (op_call rfl rfl rfl co123 ((rShort_spec s _).mono ?_))
   rintro _ _ ⟨rfl, rfl⟩
   refine qP rfl rfl rfl rfl <| qA rfl rfl rfl <| qN <| mwp_ret ?_
   exact ret_tmp (.inr rfl) Tryz.results77 rfl (.of_eq (by rw [fits_mk 3]; first | rfl | (congr 1; rw [Bool.eq_iff_iff]; simp_all [encVs_length]; done) | (congr 1; rw [Bool.eq_iff_iff]; simp_all [encVs_length]; omega))) (.bool _) ⟨rfl, rfl⟩
  ·
   refine qS rfl <| qS rfl <| qS rfl <| qP rfl rfl rfl rfl <| qA rfl rfl rfl <| qN <| mwp_ret ?_
   exact ret_tmp (.inr rfl) Tryz.results77 rfl (.of_eq (by rw [fits_mk 3]; first | rfl | (congr 1; rw [Bool.eq_iff_iff]; simp_all [encVs_length]; done) | (congr 1; rw [Bool.eq_iff_iff]; simp_all [encVs_length]; omega))) (.bool _) ⟨rfl, rfl⟩
 ·
  refine mcalls_body Tryz.func77 rfl Tryz.ntmps77 (Nat.le_of_ble_eq_true rfl) ?_
  refine mwp_seq <| qR rfl <| qB rfl rfl rfl rfl rfl <| qB rfl rfl rfl rfl rfl <| qA rfl rfl rfl <| qN <| mwp_seq <| mwp_seq <| qR rfl <| qF rfl rfl rfl fo24_0 <| qL rfl rfl rfl rfl ta3 rfl <| qN <| mwp_block <| mwp_seq <| qR rfl <| qC rfl rfl rfl rfl rfl <| qA rfl rfl rfl <| qN <| mwp_cond_f rfl (rfl) <| mwp_seq <| qR rfl <| qC rfl rfl rfl rfl rfl ?_
  refine qA rfl rfl rfl <| qN <| mwp_cond_f rfl (rfl) <| mwp_seq <| qR rfl <| qC rfl rfl rfl rfl rfl <| qA rfl rfl rfl <| qN <| mwp_cond_f rfl (rfl) <| mwp_seq <| qR rfl <| qC rfl rfl rfl rfl rfl <| qA rfl rfl rfl <| qN <| mwp_cond_t rfl (rfl) <| mwp_seq <| qR rfl <| qL rfl rfl rfl rfl ta30 rfl ?_
  refine wOps_op rfl (op_call rfl rfl rfl co122 ((has_spec n m _ c w false false true false true _).mono ?_))
  rintro _ _ ⟨rfl, rfl⟩
  refine qM rfl rfl rfl ?_
  refine wOps_case (fun h33 => ?_) (fun h33 => ?_)
  ·
   refine qF rfl rfl rfl fo30_2 <| qL rfl rfl rfl rfl ta26 rfl ?_
   refine wOps_op rfl (op_call rfl rfl rfl co123 ((rShort_spec s _).mono ?_))
   rintro _ _ ⟨rfl, rfl⟩
   refine qP rfl rfl rfl rfl <| qM rfl rfl rfl ?_
   refine wOps_case (fun h38 => ?_) (fun h38 => ?_)
   ·
    refine qF rfl rfl rfl fo30_2 <| qL rfl rfl rfl rfl ta26 rfl <| qE rfl rfl Tryz.underlying26 rfl <| qF rfl rfl rfl fo30_4 <| qL rfl rfl rfl rfl ta28 rfl <| qE rfl rfl Tryz.underlying28 rfl <| qC rfl rfl rfl rfl rfl <| qP rfl rfl rfl rfl <| qA rfl rfl rfl <| qN <| mwp_ret ?_
    exact ret_tmp (.inr rfl) Tryz.results77 rfl (.of_eq (by rw [fits_mk 4]; first | rfl | (congr 1; rw [Bool.eq_iff_iff]; simp_all [encVs_length]; done) | (congr 1; rw [Bool.eq_iff_iff]; simp_all [encVs_length]; omega))) (.bool _) ⟨rfl, rfl⟩
   ·
    refine qS rfl <| qS rfl <| qS rfl <| qS rfl <| qS rfl <| qS rfl <| qS rfl <| qP rfl rfl rfl rfl <| qA rfl rfl rfl <| qN <| mwp_ret ?_
    exact ret_tmp (.inr rfl) Tryz.results77 rfl (.of_eq (by rw [fits_mk 4]; first | rfl | (congr 1; rw [Bool.eq_iff_iff]; simp_all [encVs_length]; done) | (congr 1; rw [Bool.eq_iff_iff]; simp_all [encVs_length]; omega))) (.bool _) ⟨rfl, rfl⟩
  ·
   refine qS rfl <| qS rfl <| qS rfl <| qP rfl rfl rfl rfl <| qM rfl rfl rfl <| qS rfl <| qS rfl <| qS rfl <| qS rfl <| qS rfl <| qS rfl <| qS rfl <| qP rfl rfl rfl rfl <| qA rfl rfl rfl <| qN <| mwp_ret ?_
   exact ret_tmp (.inr rfl) Tryz.results77 rfl (.of_eq (by rw [fits_mk 4]; first | rfl | (congr 1; rw [Bool.eq_iff_iff]; simp_all [encVs_length]; done) | (congr 1; rw [Bool.eq_iff_iff]; simp_all [encVs_length]; omega))) (.bool _) ⟨rfl, rfl⟩
 ·
  refine mcalls_body Tryz.func77 rfl Tryz.ntmps77 (Nat.le_of_ble_eq_true rfl) ?_
  refine mwp_seq <| qR rfl <| qB rfl rfl rfl rfl rfl <| qB rfl rfl rfl rfl rfl <| qA rfl rfl rfl <| qN <| mwp_seq <| mwp_seq <| qR rfl <| qF rfl rfl rfl fo24_0 <| qL rfl rfl rfl rfl ta3 rfl <| qN <| mwp_block <| mwp_seq <| qR rfl <| qC rfl rfl rfl rfl rfl <| qA rfl rfl rfl <| qN <| mwp_cond_f rfl (rfl) <| mwp_seq <| qR rfl <| qC rfl rfl rfl rfl rfl ?_
  refine qA rfl rfl rfl <| qN <| mwp_cond_f rfl (rfl) <| mwp_seq <| qR rfl <| qC rfl rfl rfl rfl rfl <| qA rfl rfl rfl <| qN <| mwp_cond_f rfl (rfl) <| mwp_seq <| qR rfl <| qC rfl rfl rfl rfl rfl <| qA rfl rfl rfl <| qN <| mwp_cond_f rfl (rfl) <| mwp_seq <| qR rfl <| qC rfl rfl rfl rfl rfl <| qA rfl rfl rfl <| qN <| mwp_cond_t rfl (rfl) <| mwp_seq <| qR rfl ?_
  refine qL rfl rfl rfl rfl ta30 rfl ?_
  refine wOps_op rfl (op_call rfl rfl rfl co122 ((has_spec n m _ c w false false false false true _).mono ?_))
  rintro _ _ ⟨rfl, rfl⟩
  refine qM rfl rfl rfl ?_
  refine wOps_case (fun h51 => ?_) (fun h51 => ?_)
  ·
   refine qF rfl rfl rfl fo30_4 <| qL rfl rfl rfl rfl ta28 rfl <| qE rfl rfl Tryz.underlying28 rfl <| qC rfl rfl rfl rfl rfl <| qP rfl rfl rfl rfl <| qA rfl rfl rfl <| qN <| mwp_ret ?_
   exact ret_tmp (.inr rfl) Tryz.results77 rfl (.of_eq (by rw [fits_mk 5]; first | rfl | (congr 1; rw [Bool.eq_iff_iff]; simp_all [encVs_length]; done) | (congr 1; rw [Bool.eq_iff_iff]; simp_all [encVs_length]; omega))) (.bool _) ⟨rfl, rfl⟩
  ·
   refine qS rfl <| qS rfl <| qS rfl <| qS rfl <| qP rfl rfl rfl rfl <| qA rfl rfl rfl <| qN <| mwp_ret ?_
   exact ret_tmp (.inr rfl) Tryz.results77 rfl (.of_eq (by rw [fits_mk 5]; first | rfl | (congr 1; rw [Bool.eq_iff_iff]; simp_all [encVs_length]; done) | (congr 1; rw [Bool.eq_iff_iff]; simp_all [encVs_length]; omega))) (.bool _) ⟨rfl, rfl⟩
 ·
  refine mcalls_body Tryz.func77 rfl Tryz.ntmps77 (Nat.le_of_ble_eq_true rfl) ?_
  refine mwp_seq <| qR rfl <| qB rfl rfl rfl rfl rfl <| qB rfl rfl rfl rfl rfl <| qA rfl rfl rfl <| qN <| mwp_seq <| mwp_seq <| qR rfl <| qF rfl rfl rfl fo24_0 <| qL rfl rfl rfl rfl ta3 rfl <| qN <| mwp_block <| mwp_seq <| qR rfl <| qC rfl rfl rfl rfl rfl <| qA rfl rfl rfl <| qN <| mwp_cond_f rfl (rfl) <| mwp_seq <| qR rfl <| qC rfl rfl rfl rfl rfl ?_
  refine qA rfl rfl rfl <| qN <| mwp_cond_f rfl (rfl) <| mwp_seq <| qR rfl <| qC rfl rfl rfl rfl rfl <| qA rfl rfl rfl <| qN <| mwp_cond_f rfl (rfl) <| mwp_seq <| qR rfl <| qC rfl rfl rfl rfl rfl <| qA rfl rfl rfl <| qN <| mwp_cond_f rfl (rfl) <| mwp_seq <| qR rfl <| qC rfl rfl rfl rfl rfl <| qA rfl rfl rfl <| qN <| mwp_cond_f rfl (rfl) <| mwp_seq <| qR rfl ?_
  refine qC rfl rfl rfl rfl rfl <| qA rfl rfl rfl <| qN <| mwp_cond_t rfl (rfl) <| mwp_seq <| mwp_seq <| qR rfl <| qF rfl rfl rfl fo30_2 <| qL rfl rfl rfl rfl ta26 rfl <| qE rfl rfl Tryz.underlying26 rfl <| qC rfl rfl rfl rfl rfl <| qN ?_
  refine mwp_cond_split rfl (fun h62 => ?_) (fun h62 => ?_)
  ·
   have hs0 : s = [] := by simpa using h62
   subst hs0
   refine mwp_seq <| qR rfl <| qL rfl rfl rfl rfl ta30 rfl ?_
   refine wOps_op rfl (op_call rfl rfl rfl co122 ((has_spec n m _ c w false false false false false _).mono ?_))
   rintro _ _ ⟨rfl, rfl⟩
   refine qA rfl rfl rfl <| qN <| mwp_ret ?_
   exact ret_tmp (.inr rfl) Tryz.results77 rfl (.of_eq (by first | (rw [hF]; done) | (rw [fits6_nil]; done) | (rw [fits6_one]; congr 1; rw [Bool.eq_iff_iff]; simp_all [shortF]; done) | (rw [fits6_one]; congr 1; rw [Bool.eq_iff_iff]; simp_all [shortF]; intros; omega) | (congr 1; symm; exact fits6_has hs0 (by simpa using h67)))) (.bool _) ⟨rfl, rfl⟩
  ·
   have hs0 : ¬ s = [] := by simpa using h62
   refine mwp_skip <| mwp_seq <| qR rfl <| qL rfl rfl rfl rfl ta30 rfl ?_
   refine wOps_op rfl (op_call rfl rfl rfl co122 ((has_spec n m _ c w true true true false false _).mono ?_))
   rintro _ _ ⟨rfl, rfl⟩
   refine qM rfl rfl rfl ?_
   refine wOps_case (fun h67 => ?_) (fun h67 => ?_)
   ·
    refine qF rfl rfl rfl fo30_2 <| qL rfl rfl rfl rfl ta26 rfl <| qE rfl rfl Tryz.underlying26 rfl <| qC rfl rfl rfl rfl rfl <| qP rfl rfl rfl rfl <| qM rfl rfl rfl ?_
    refine wOps_case (fun h73 => ?_) (fun h73 => ?_)
    ·
     obtain ⟨t, rfl⟩ := one_of (by rw [List.length_map] at h73; simp at h73; omega : s.length = 1)
     refine qF rfl rfl rfl fo30_2 <| qL rfl rfl rfl rfl ta26 rfl ?_
     refine wOps_op rfl (op_call rfl rfl rfl co123 ((rShort_spec [t] _).mono ?_))
     rintro _ _ ⟨rfl, rfl⟩
     refine qP rfl rfl rfl rfl <| qM rfl rfl rfl ?_
     refine wOps_case (fun h78 => ?_) (fun h78 => ?_)
     ·
      refine qF rfl rfl rfl fo30_0 <| qL rfl rfl rfl rfl ta25 rfl <| qC rfl rfl rfl rfl rfl <| qM rfl rfl rfl ?_
      refine wOps_case (fun h82 => ?_) (fun h82 => ?_)
      ·
       refine qS rfl <| qS rfl <| qS rfl <| qP rfl rfl rfl rfl <| qM rfl rfl rfl <| qS rfl <| qS rfl <| qS rfl <| qS rfl <| qS rfl <| qP rfl rfl rfl rfl <| qP rfl rfl rfl rfl <| qA rfl rfl rfl <| qN <| mwp_ret ?_
       exact ret_tmp (.inr rfl) Tryz.results77 rfl (.of_eq (by first | (rw [hF]; done) | (rw [fits6_nil]; done) | (rw [fits6_one]; congr 1; rw [Bool.eq_iff_iff]; simp_all [shortF]; done) | (rw [fits6_one]; congr 1; rw [Bool.eq_iff_iff]; simp_all [shortF]; intros; omega) | (congr 1; symm; exact fits6_has hs0 (by simpa using h67)))) (.bool _) ⟨rfl, rfl⟩
      ·
       refine qF rfl rfl rfl fo30_1 <| qL rfl rfl rfl rfl ta25 rfl <| qC rfl rfl rfl rfl rfl <| qP rfl rfl rfl rfl <| qM rfl rfl rfl ?_
       refine wOps_case (fun h87 => ?_) (fun h87 => ?_)
       ·
        refine qS rfl <| qS rfl <| qS rfl <| qS rfl <| qS rfl <| qP rfl rfl rfl rfl <| qP rfl rfl rfl rfl <| qA rfl rfl rfl <| qN <| mwp_ret ?_
        exact ret_tmp (.inr rfl) Tryz.results77 rfl (.of_eq (by first | (rw [hF]; done) | (rw [fits6_nil]; done) | (rw [fits6_one]; congr 1; rw [Bool.eq_iff_iff]; simp_all [shortF]; done) | (rw [fits6_one]; congr 1; rw [Bool.eq_iff_iff]; simp_all [shortF]; intros; omega) | (congr 1; symm; exact fits6_has hs0 (by simpa using h67)))) (.bool _) ⟨rfl, rfl⟩
       ·
        refine qF rfl rfl rfl fo30_2 <| qL rfl rfl rfl rfl ta26 rfl <| qO rfl <| op_indexAddr rfl Tryz.underlying26 sz9 (by decide) rfl rfl rfl (show _ = some (encX t) from rfl) ?_
        refine qO rfl <| op_load_sptr rfl rfl ta9 rfl <| qO rfl <| op_strcmp rfl rfl rfl rfl <| qP rfl rfl rfl rfl <| qP rfl rfl rfl rfl <| qA rfl rfl rfl <| qN <| mwp_ret ?_
        exact ret_tmp (.inr rfl) Tryz.results77 rfl (.of_eq (by first | (rw [hF]; done) | (rw [fits6_nil]; done) | (rw [fits6_one]; congr 1; rw [Bool.eq_iff_iff]; simp_all [shortF]; done) | (rw [fits6_one]; congr 1; rw [Bool.eq_iff_iff]; simp_all [shortF]; intros; omega) | (congr 1; symm; exact fits6_has hs0 (by simpa using h67)))) (.bool _) ⟨rfl, rfl⟩
     ·
      refine qS rfl <| qS rfl <| qS rfl <| qS rfl <| qS rfl <| qS rfl <| qS rfl <| qS rfl <| qS rfl <| qS rfl <| qS rfl <| qS rfl <| qS rfl <| qS rfl <| qS rfl <| qP rfl rfl rfl rfl <| qA rfl rfl rfl <| qN <| mwp_ret ?_
      exact ret_tmp (.inr rfl) Tryz.results77 rfl (.of_eq (by first | (rw [hF]; done) | (rw [fits6_nil]; done) | (rw [fits6_one]; congr 1; rw [Bool.eq_iff_iff]; simp_all [shortF]; done) | (rw [fits6_one]; congr 1; rw [Bool.eq_iff_iff]; simp_all [shortF]; intros; omega) | (congr 1; symm; exact fits6_has hs0 (by simpa using h67)))) (.bool _) ⟨rfl, rfl⟩
    ·
     have hF : fitsF 6 (.mk n m s c w) = false := fits6_no hs0 (fun e => by rw [List.length_map, e] at h73; simp at h73)
     refine qS rfl <| qS rfl <| qS rfl <| qP rfl rfl rfl rfl <| qM rfl rfl rfl <| qS rfl <| qS rfl <| qS rfl <| qS rfl <| qS rfl <| qS rfl <| qS rfl <| qS rfl <| qS rfl <| qS rfl <| qS rfl <| qS rfl <| qS rfl <| qS rfl <| qS rfl <| qP rfl rfl rfl rfl <| qA rfl rfl rfl <| qN <| mwp_ret ?_
     exact ret_tmp (.inr rfl) Tryz.results77 rfl (.of_eq (by first | (rw [hF]; done) | (rw [fits6_nil]; done) | (rw [fits6_one]; congr 1; rw [Bool.eq_iff_iff]; simp_all [shortF]; done) | (rw [fits6_one]; congr 1; rw [Bool.eq_iff_iff]; simp_all [shortF]; intros; omega) | (congr 1; symm; exact fits6_has hs0 (by simpa using h67)))) (.bool _) ⟨rfl, rfl⟩
   ·
    refine qS rfl <| qS rfl <| qS rfl <| qS rfl <| qP rfl rfl rfl rfl <| qM rfl rfl rfl <| qS rfl <| qS rfl <| qS rfl <| qP rfl rfl rfl rfl <| qM rfl rfl rfl <| qS rfl <| qS rfl <| qS rfl <| qS rfl <| qS rfl <| qS rfl <| qS rfl <| qS rfl <| qS rfl <| qS rfl <| qS rfl <| qS rfl <| qS rfl <| qS rfl <| qS rfl ?_
    refine qP rfl rfl rfl rfl <| qA rfl rfl rfl <| qN <| mwp_ret ?_
    exact ret_tmp (.inr rfl) Tryz.results77 rfl (.of_eq (by first | (rw [hF]; done) | (rw [fits6_nil]; done) | (rw [fits6_one]; congr 1; rw [Bool.eq_iff_iff]; simp_all [shortF]; done) | (rw [fits6_one]; congr 1; rw [Bool.eq_iff_iff]; simp_all [shortF]; intros; omega) | (congr 1; symm; exact fits6_has hs0 (by simpa using h67)))) (.bool _) ⟨rfl, rfl⟩
 ·
  refine mcalls_body Tryz.func77 rfl Tryz.ntmps77 (Nat.le_of_ble_eq_true rfl) ?_
  refine mwp_seq <| qR rfl <| qB rfl rfl rfl rfl rfl <| qB rfl rfl rfl rfl rfl <| qA rfl rfl rfl <| qN <| mwp_seq <| mwp_seq <| qR rfl <| qF rfl rfl rfl fo24_0 <| qL rfl rfl rfl rfl ta3 rfl <| qN <| mwp_block <| mwp_seq <| qR rfl <| qC rfl rfl rfl rfl rfl <| qA rfl rfl rfl <| qN <| mwp_cond_f rfl (rfl) <| mwp_seq <| qR rfl <| qC rfl rfl rfl rfl rfl ?_
  refine qA rfl rfl rfl <| qN <| mwp_cond_f rfl (rfl) <| mwp_seq <| qR rfl <| qC rfl rfl rfl rfl rfl <| qA rfl rfl rfl <| qN <| mwp_cond_f rfl (rfl) <| mwp_seq <| qR rfl <| qC rfl rfl rfl rfl rfl <| qA rfl rfl rfl <| qN <| mwp_cond_f rfl (rfl) <| mwp_seq <| qR rfl <| qC rfl rfl rfl rfl rfl <| qA rfl rfl rfl <| qN <| mwp_cond_f rfl (rfl) <| mwp_seq <| qR rfl ?_
  refine qC rfl rfl rfl rfl rfl <| qA rfl rfl rfl <| qN <| mwp_cond_f rfl (rfl) <| mwp_seq <| qR rfl <| qC rfl rfl rfl rfl rfl <| qA rfl rfl rfl <| qN <| mwp_cond_t rfl (rfl) <| mwp_seq <| qR rfl <| qL rfl rfl rfl rfl ta30 rfl ?_
  refine wOps_op rfl (op_call rfl rfl rfl co122 ((has_spec n m _ c w false false false true false _).mono ?_))
  rintro _ _ ⟨rfl, rfl⟩
  refine qM rfl rfl rfl ?_
  refine wOps_case (fun h99 => ?_) (fun h99 => ?_)
  ·
   refine qF rfl rfl rfl fo30_3 <| qL rfl rfl rfl rfl ta27 rfl <| qE rfl rfl Tryz.underlying27 rfl <| qC rfl rfl rfl rfl rfl <| qP rfl rfl rfl rfl <| qA rfl rfl rfl <| qN <| mwp_ret ?_
   exact ret_tmp (.inr rfl) Tryz.results77 rfl (.of_eq (by rw [fits_mk 7]; first | rfl | (congr 1; rw [Bool.eq_iff_iff]; simp_all [encVs_length]; done) | (congr 1; rw [Bool.eq_iff_iff]; simp_all [encVs_length]; omega))) (.bool _) ⟨rfl, rfl⟩
  ·
   refine qS rfl <| qS rfl <| qS rfl <| qS rfl <| qP rfl rfl rfl rfl <| qA rfl rfl rfl <| qN <| mwp_ret ?_
   exact ret_tmp (.inr rfl) Tryz.results77 rfl (.of_eq (by rw [fits_mk 7]; first | rfl | (congr 1; rw [Bool.eq_iff_iff]; simp_all [encVs_length]; done) | (congr 1; rw [Bool.eq_iff_iff]; simp_all [encVs_length]; omega))) (.bool _) ⟨rfl, rfl⟩
 ·
  refine mcalls_body Tryz.func77 rfl Tryz.ntmps77 (Nat.le_of_ble_eq_true rfl) ?_
  refine mwp_seq <| qR rfl <| qB rfl rfl rfl rfl rfl <| qB rfl rfl rfl rfl rfl <| qA rfl rfl rfl <| qN <| mwp_seq <| mwp_seq <| qR rfl <| qF rfl rfl rfl fo24_0 <| qL rfl rfl rfl rfl ta3 rfl <| qN <| mwp_block <| mwp_seq <| qR rfl <| qC rfl rfl rfl rfl rfl <| qA rfl rfl rfl <| qN <| mwp_cond_f rfl (rfl) <| mwp_seq <| qR rfl <| qC rfl rfl rfl rfl rfl ?_
  refine qA rfl rfl rfl <| qN <| mwp_cond_f rfl (rfl) <| mwp_seq <| qR rfl <| qC rfl rfl rfl rfl rfl <| qA rfl rfl rfl <| qN <| mwp_cond_f rfl (rfl) <| mwp_seq <| qR rfl <| qC rfl rfl rfl rfl rfl <| qA rfl rfl rfl <| qN <| mwp_cond_f rfl (rfl) <| mwp_seq <| qR rfl <| qC rfl rfl rfl rfl rfl <| qA rfl rfl rfl <| qN <| mwp_cond_f rfl (rfl) <| mwp_seq <| qR rfl ?_
  refine qC rfl rfl rfl rfl rfl <| qA rfl rfl rfl <| qN <| mwp_cond_f rfl (rfl) <| mwp_seq <| qR rfl <| qC rfl rfl rfl rfl rfl <| qA rfl rfl rfl <| qN <| mwp_cond_f rfl (rfl) <| mwp_skip <| mwp_seq <| qR rfl <| qL rfl rfl rfl rfl ta30 rfl ?_
  refine wOps_op rfl (op_call rfl rfl rfl co122 ((has_spec n m _ c w false false false true true _).mono ?_))
  rintro _ _ ⟨rfl, rfl⟩
  refine qM rfl rfl rfl ?_
  refine wOps_case (fun h107 => ?_) (fun h107 => ?_)
  ·
   refine qF rfl rfl rfl fo30_3 <| qL rfl rfl rfl rfl ta27 rfl <| qE rfl rfl Tryz.underlying27 rfl <| qF rfl rfl rfl fo30_4 <| qL rfl rfl rfl rfl ta28 rfl <| qE rfl rfl Tryz.underlying28 rfl <| qC rfl rfl rfl rfl rfl <| qP rfl rfl rfl rfl <| qA rfl rfl rfl <| qN <| mwp_ret ?_
   exact ret_tmp (.inr rfl) Tryz.results77 rfl (.of_eq (by rw [fits_mk 8]; first | rfl | (congr 1; rw [Bool.eq_iff_iff]; simp_all [encVs_length]; done) | (congr 1; rw [Bool.eq_iff_iff]; simp_all [encVs_length]; omega))) (.bool _) ⟨rfl, rfl⟩
  ·
   refine qS rfl <| qS rfl <| qS rfl <| qS rfl <| qS rfl <| qS rfl <| qS rfl <| qP rfl rfl rfl rfl <| qA rfl rfl rfl <| qN <| mwp_ret ?_
   exact ret_tmp (.inr rfl) Tryz.results77 rfl (.of_eq (by rw [fits_mk 8]; first | rfl | (congr 1; rw [Bool.eq_iff_iff]; simp_all [encVs_length]; done) | (congr 1; rw [Bool.eq_iff_iff]; simp_all [encVs_length]; omega))) (.bool _) ⟨rfl, rfl⟩
end Go.Proofs.YtnfcnpdpfgcchaaGreatDoor
end
section
set_option linter.unusedVariables false
set_option linter.unusedSimpArgs false
set_option maxRecDepth 20000
set_option maxHeartbeats 400000
namespace Go.Proofs.YtnfcnpdpfgcchaaGreatDoor
open Go Go.MV
theorem rcmp_eq {a b : List Tk} (ha : isClockF a = true) (hb : isClockF b = true) (ua : ∀ t ∈ a, okTk t) (ub : ∀ t ∈ b, okTk t) : rcmpF a b = cmpF a b := by
 obtain ⟨h1, h2, _⟩ := isClock_spec ha ua
 obtain ⟨h3, h4, _⟩ := isClock_spec hb ub
 exact (cmp_eq h1 h3 h2 h4).symm
theorem getD_of {α : Type} {l : List α} {i : Nat} {a d : α} (h : l[i]? = some a) : l.getD i d = a := by simp [h]
theorem sibAt_of {f : Val → Bool} {c : List (List Tk)} {w : List Val} {i : Nat} {x : List Tk} {y : Val} (hs : c[i]? = some x) (hs2 : w[i]? = some y) : sibAt f c w i = (isClockF x && f y && (i == 0 || aheadF (c.getD (i - 1) []) x) && decide (∀ j, j < i → cmpF (c.getD j []) x = 2)) := by
 unfold sibAt
 rw [getD_of hs, getD_of hs2]
theorem sibs_false {f : Val → Bool} {c : List (List Tk)} {w : List Val} {i : Nat} (hlt : i < c.length) (h : sibAt f c w i = false) : sibsF f c w = false := by
 unfold sibsF
 rw [decide_eq_false (p := ∀ i, i < c.length → sibAt f c w i = true) (fun hall => by rw [hall i hlt] at h; cases h), Bool.and_false]
theorem sibs_long {f : Val → Bool} {c : List (List Tk)} {w : List Val} (h : ¬ c.length ≤ 40) : sibsF f c w = false := by
 unfold sibsF
 rw [decide_eq_false h, Bool.false_and]
theorem sibs_true {f : Val → Bool} {c : List (List Tk)} {w : List Val} (h : c.length ≤ 40) (hall : ∀ i, i < c.length → sibAt f c w i = true) : sibsF f c w = true := by
 unfold sibsF
 rw [decide_eq_true h, decide_eq_true hall]; rfl
theorem sibAt_clock {f : Val → Bool} {c : List (List Tk)} {w : List Val} {i : Nat} {x : List Tk} (hs : c[i]? = some x) (h : sibAt f c w i = true) : isClockF x = true := by
 unfold sibAt at h
 rw [getD_of hs] at h
 simp only [Bool.and_eq_true] at h
 exact h.1.1.1
theorem isRF_mk {ins : List Sch} {n m : Int} {s : List Bs} {c : List (List Tk)} {w : List Val} (k : Int) : isRF (.mk k ins) (.mk n m s c w) = (fitsF k (.mk n m s c w) && risesF s && decide (s.length ≤ 40) &&
 (if k = 4 then w.all (fun x => (isRL ins).headD (fun _ => false) x && !noneF (ins.headD default) x)
  else if k = 5 then (match w with | [x, y] => (isRL ins).headD (fun _ => false) x && (isRL ins).tail.headD (fun _ => false) y | _ => false)
  else if k = 7 then (match c with | [] => true | [c] => isClockF c && decide (0 < c.length) | _ => false)
  else if k = 8 then sibsF ((isRL ins).headD (fun _ => false)) c w else true)) := by rw [isRF]; rfl
theorem fits5 {n m : Int} {s : List Bs} {c : List (List Tk)} {w : List Val} (h : fitsF 5 (.mk n m s c w) = true) : w.length = 2 := by
 rw [fits_mk 5] at h; simp at h; exact h.2
theorem fits7 {n m : Int} {s : List Bs} {c : List (List Tk)} {w : List Val} (h : fitsF 7 (.mk n m s c w) = true) : c.length ≤ 1 := by
 rw [fits_mk 7] at h; simp at h; exact h.2
theorem fits8 {n m : Int} {s : List Bs} {c : List (List Tk)} {w : List Val} (h : fitsF 8 (.mk n m s c w) = true) : c.length = w.length := by
 rw [fits_mk 8] at h; simp at h; exact h.2
theorem sibs_spec (k k1 : Int) (i1 rest : List Sch) (f : Val → Bool) (ih : ∀ x, okV x → ∀ S : MS, MCalls Tryz.prog 46 [encS (.mk k1 i1), encV x] S fun v σ' => v = .bool (f x) ∧ σ' = S) (n m : Int) (s : List Bs) (c : List (List Tk)) (w : List Val) (hl : c.length = w.length) (hc : ∀ x ∈ c, ∀ t ∈ x, okTk t) (hw : ∀ x ∈ w, okV x) (S : MS) : MCalls Tryz.prog 80 [encS (.mk k (.mk k1 i1 :: rest)), encV (.mk n m s c w)] S fun v σ' => v = .bool (sibsF f c w) ∧ σ' = S := by
 refine mcalls_body Tryz.func80 rfl Tryz.ntmps80 (Nat.le_of_ble_eq_true rfl) ?_
 refine mwp_seq <| qR rfl <| qB rfl rfl rfl rfl rfl <| qB rfl rfl rfl rfl rfl <| qA rfl rfl rfl <| qN <| mwp_seq <| mwp_seq <| qR rfl <| qF rfl rfl rfl fo30_3 <| qL rfl rfl rfl rfl ta27 rfl <| qE rfl rfl Tryz.underlying27 rfl <| qC rfl rfl rfl rfl rfl <| qN ?_
 refine mwp_cond_split rfl (fun h10 => ?_) (fun h10 => ?_)
 ·
  have c40 : ¬ c.length ≤ 40 := by rw [List.length_map] at h10; simp at h10; omega
  refine mwp_seq <| qR rfl <| qA rfl rfl rfl <| qN <| mwp_ret ?_
  exact ret_tmp (.inr rfl) Tryz.results80 rfl (.of_eq (by rw [sibs_long c40])) (.bool _) ⟨rfl, rfl⟩
 ·
  have c40 : c.length ≤ 40 := by rw [List.length_map] at h10; simp at h10; omega
  refine mwp_len (t := 8) rfl fun hlen => ?_
  rw [List.length_map] at hlen
  refine mwp_skip <| mwp_seq <| mwp_seq <| qR rfl <| qA rfl rfl rfl <| qN <| mwp_block ?_
  refine mwp_loopK (α := Nat) [(2, _), (3, _)] (fun i => [(5, .int .i64 (i : Int))]) (fun i => [.cells (encS (.mk k (.mk k1 i1 :: rest))).cells, .cells (encV (.mk n m s c w)).cells]) (fun i => i ≤ c.length ∧ ∀ j, j < i → sibAt f c w j = true) (fun i => c.length - i) (0) (.keep rfl (.keep rfl (.nil))) (.keep rfl (.nil)) (⟨by omega, fun j hj => by omega⟩) (rfl) ?_
  rintro i ⟨hi, hall⟩
  refine mwp_seq <| mwp_seq <| qR rfl <| qM rfl rfl rfl <| qF rfl rfl rfl fo30_3 <| qL rfl rfl rfl rfl ta27 rfl <| qE rfl rfl Tryz.underlying27 rfl <| qC rfl rfl rfl rfl rfl <| qN ?_
  refine mwp_cond_split rfl (fun h15 => ?_) (fun h15 => ?_)
  ·
   have hlt : i < c.length := by simpa using h15
   obtain ⟨x, hs⟩ : ∃ q_, c[i]? = some q_ := ⟨_, List.getElem?_eq_getElem hlt⟩
   refine mwp_skip <| mwp_seq <| mwp_block <| mwp_seq <| mwp_seq ?_
   obtain ⟨⟨n1, m1, s1, c1, w1⟩, hs2⟩ : ∃ q, w[i]? = some q := ⟨_, List.getElem?_eq_getElem (by omega)⟩
   refine mwp_draw [] [_] mo (by decide) rfl rfl rfl rfl ?_
   refine dO rfl rfl rfl (op_fieldAddr_ref rfl rfl fo30_3 ⟨rfl, rfl⟩) <| dO rfl rfl rfl (op_load' rfl rfl rfl ta27 rfl ⟨rfl, rfl⟩) <| dO rfl rfl rfl (op_move rfl rfl ⟨rfl, rfl⟩) <| dO rfl rfl rfl (op_indexAddr rfl Tryz.underlying27 sz60 (by decide) rfl rfl rfl (get_map hs) ⟨rfl, rfl⟩) ?_
   refine dO rfl rfl rfl (op_load_sptr rfl rfl ta60 rfl ⟨rfl, rfl⟩) <| dOps_op rfl rfl (.cons (op_call rfl rfl rfl co79 (rIsClock_spec x _)) .nil) <| dO rfl rfl rfl (op_not rfl rfl ⟨rfl, rfl⟩) <| dO rfl rfl rfl (op_move rfl rfl ⟨rfl, rfl⟩) ?_
   refine dOps_case (fun h25 => ?_) (fun h25 => ?_)
   ·
    refine dS rfl rfl <| dS rfl rfl <| dS rfl rfl <| dS rfl rfl <| dS rfl rfl <| dS rfl rfl <| dS rfl rfl <| dS rfl rfl <| dS rfl rfl <| dS rfl rfl <| dS rfl rfl <| dO rfl rfl rfl (op_pick rfl rfl rfl ⟨rfl, rfl⟩) <| dO rfl rfl rfl (op_move rfl rfl ⟨rfl, rfl⟩) <| dS rfl rfl <| dS rfl rfl <| dS rfl rfl <| dS rfl rfl <| dS rfl rfl <| dS rfl rfl <| dS rfl rfl <| dS rfl rfl <| dS rfl rfl <| dS rfl rfl <| dS rfl rfl <| dS rfl rfl <| dS rfl rfl <| dS rfl rfl <| dS rfl rfl <| dS rfl rfl <| dS rfl rfl ?_
    refine dO rfl rfl rfl (op_pick rfl rfl rfl ⟨rfl, rfl⟩) <| dOps_nil <| mwp_cond_t rfl (rfl) <| mwp_seq <| qR rfl <| qA rfl rfl rfl <| qN <| mwp_ret ?_
    exact ret_tmp (.inr rfl) Tryz.results80 rfl (.of_eq (by rw [sibs_false hlt (by rw [sibAt_of hs hs2]; simp_all <;> omega)])) (.bool _) ⟨rfl, rfl⟩
   ·
    refine dO rfl rfl rfl (op_fieldAddr_ref rfl rfl fo24_1 ⟨rfl, rfl⟩) <| dO rfl rfl rfl (op_load' rfl rfl rfl ta22 rfl ⟨rfl, rfl⟩) <| dO rfl rfl rfl (op_indexAddr rfl Tryz.underlying22 sz24 (by decide) rfl rfl rfl (show _ = some (encS (.mk k1 i1)) from rfl) ⟨rfl, rfl⟩) ?_
    refine dO rfl rfl rfl (op_load_sptr rfl rfl ta24 rfl ⟨rfl, rfl⟩) <| dO rfl rfl rfl (op_fieldAddr_ref rfl rfl fo30_4 ⟨rfl, rfl⟩) <| dO rfl rfl rfl (op_load' rfl rfl rfl ta28 rfl ⟨rfl, rfl⟩) <| dO rfl rfl rfl (op_move rfl rfl ⟨rfl, rfl⟩) <| dO rfl rfl rfl (op_indexAddr rfl Tryz.underlying28 sz30 (by decide) rfl rfl rfl (encVs_get hs2) ⟨rfl, rfl⟩) ?_
    refine dO rfl rfl rfl (op_load_sptr rfl rfl ta30 rfl ⟨rfl, rfl⟩) <| dOps_op rfl rfl (.cons (op_call rfl rfl rfl co46 (ih (.mk n1 m1 s1 c1 w1) (hw _ (List.mem_of_getElem? hs2)) _)) .nil) <| dO rfl rfl rfl (op_not rfl rfl ⟨rfl, rfl⟩) <| dO rfl rfl rfl (op_pick rfl rfl rfl ⟨rfl, rfl⟩) <| dO rfl rfl rfl (op_move rfl rfl ⟨rfl, rfl⟩) ?_
    refine dOps_case (fun h38 => ?_) (fun h38 => ?_)
    ·
     refine dS rfl rfl <| dS rfl rfl <| dS rfl rfl <| dS rfl rfl <| dS rfl rfl <| dS rfl rfl <| dS rfl rfl <| dS rfl rfl <| dS rfl rfl <| dS rfl rfl <| dS rfl rfl <| dS rfl rfl <| dS rfl rfl <| dS rfl rfl <| dS rfl rfl <| dS rfl rfl <| dS rfl rfl <| dO rfl rfl rfl (op_pick rfl rfl rfl ⟨rfl, rfl⟩) <| dOps_nil <| mwp_cond_t rfl (rfl) <| mwp_seq <| qR rfl <| qA rfl rfl rfl <| qN <| mwp_ret ?_
     exact ret_tmp (.inr rfl) Tryz.results80 rfl (.of_eq (by rw [sibs_false hlt (by rw [sibAt_of hs hs2]; simp_all <;> omega)])) (.bool _) ⟨rfl, rfl⟩
    ·
     refine dO rfl rfl rfl (op_move rfl rfl ⟨rfl, rfl⟩) <| dO rfl rfl rfl (op_cmp rfl rfl rfl rfl ⟨rfl, rfl⟩) <| dO rfl rfl rfl (op_move rfl rfl ⟨rfl, rfl⟩) ?_
     refine dOps_case (fun h41 => ?_) (fun h41 => ?_)
     ·
      have hi0 : 0 < i := by simpa using h41
      obtain ⟨p, hp⟩ : ∃ q, c[i - 1]? = some q := ⟨_, List.getElem?_eq_getElem (by omega)⟩
      have hgp := getD_of (d := []) hp
      refine dO rfl rfl rfl (op_fieldAddr_ref rfl rfl fo30_3 ⟨rfl, rfl⟩) <| dO rfl rfl rfl (op_load' rfl rfl rfl ta27 rfl ⟨rfl, rfl⟩) <| dO rfl rfl rfl (op_move rfl rfl ⟨rfl, rfl⟩) <| dO rfl rfl rfl (op_arith rfl rfl rfl (wsub (a := i) (b := 1) (c := i - 1) (by omega) (by simp only [maxLen] at hlen; omega)) ⟨rfl, rfl⟩) ?_
      refine dO rfl rfl rfl (op_indexAddr rfl Tryz.underlying27 sz60 (by decide) rfl rfl rfl (get_map hp) ⟨rfl, rfl⟩) ?_
      refine dO rfl rfl rfl (op_load_sptr rfl rfl ta60 rfl ⟨rfl, rfl⟩) <| dO rfl rfl rfl (op_fieldAddr_ref rfl rfl fo30_3 ⟨rfl, rfl⟩) <| dO rfl rfl rfl (op_load' rfl rfl rfl ta27 rfl ⟨rfl, rfl⟩) <| dO rfl rfl rfl (op_move rfl rfl ⟨rfl, rfl⟩) <| dO rfl rfl rfl (op_indexAddr rfl Tryz.underlying27 sz60 (by decide) rfl rfl rfl (get_map hs) ⟨rfl, rfl⟩) ?_
      refine dO rfl rfl rfl (op_load_sptr rfl rfl ta60 rfl ⟨rfl, rfl⟩) <| dOps_op rfl rfl (.cons (op_call rfl rfl rfl co111 (rAhead_spec p x _)) .nil) <| dO rfl rfl rfl (op_not rfl rfl ⟨rfl, rfl⟩) <| dO rfl rfl rfl (op_pick rfl rfl rfl ⟨rfl, rfl⟩) <| dO rfl rfl rfl (op_pick rfl rfl rfl ⟨rfl, rfl⟩) <| dOps_nil ?_
      refine mwp_cond_split rfl (fun h56 => ?_) (fun h56 => ?_)
      ·
       refine mwp_seq <| qR rfl <| qA rfl rfl rfl <| qN <| mwp_ret ?_
       exact ret_tmp (.inr rfl) Tryz.results80 rfl (.of_eq (by rw [sibs_false hlt (by rw [sibAt_of hs hs2]; simp_all <;> omega)])) (.bool _) ⟨rfl, rfl⟩
      ·
       refine mwp_skip <| mwp_seq <| qR rfl <| qA rfl rfl rfl <| qN <| mwp_block ?_
       refine mwp_loopK (α := Nat) [(2, _), (3, _), (5, _), (26, _), (27, _), (28, _), (29, _), (30, _), (31, _), (32, _), (33, _), (34, _), (35, _), (36, _), (39, _), (40, _), (41, _), (42, _), (43, _), (44, _), (45, _), (46, _), (47, _), (48, _), (49, _), (50, _), (51, _), (52, _), (53, _), (54, _), (55, _)] (fun q => [(6, .int .i64 (q : Int))]) (fun q => [.cells (encS (.mk k (.mk k1 i1 :: rest))).cells, .cells (encV (.mk n m s c w)).cells]) (fun q => q ≤ i ∧ ∀ j, j < q → cmpF (c.getD j []) x = 2) (fun q => i - q) (0) (.keep rfl (.keep rfl (.keep rfl (.keep rfl (.keep rfl (.keep rfl (.keep rfl (.keep rfl (.keep rfl (.keep rfl (.keep rfl (.keep rfl (.keep rfl (.keep rfl (.keep rfl (.keep rfl (.keep rfl (.keep rfl (.keep rfl (.keep rfl (.keep rfl (.keep rfl (.keep rfl (.keep rfl (.keep rfl (.keep rfl (.keep rfl (.keep rfl (.keep rfl (.keep rfl (.keep rfl (.nil)))))))))))))))))))))))))))))))) (.keep rfl (.nil)) (⟨by omega, fun j hj => by omega⟩) (rfl) ?_
       rintro q ⟨hq, hin⟩
       refine mwp_seq <| mwp_seq <| qR rfl <| qM rfl rfl rfl <| qM rfl rfl rfl <| qC rfl rfl rfl rfl rfl <| qN ?_
       refine mwp_cond_split rfl (fun h59 => ?_) (fun h59 => ?_)
       ·
        have hlt2 : q < i := by simpa using h59
        obtain ⟨z, hz⟩ : ∃ z, c[q]? = some z := ⟨_, List.getElem?_eq_getElem (by omega)⟩
        have hzc := sibAt_clock hz (hall q hlt2)
        have hre := rcmp_eq hzc (show isClockF x = true by simpa using h25) (hc z (List.mem_of_getElem? hz)) (hc x (List.mem_of_getElem? hs))
        refine mwp_skip <| mwp_seq <| mwp_block <| mwp_seq ?_
        refine mwp_draw [] [_] mo (by decide) rfl rfl rfl rfl ?_
        refine dO rfl rfl rfl (op_fieldAddr_ref rfl rfl fo30_3 ⟨rfl, rfl⟩) <| dO rfl rfl rfl (op_load' rfl rfl rfl ta27 rfl ⟨rfl, rfl⟩) <| dO rfl rfl rfl (op_move rfl rfl ⟨rfl, rfl⟩) <| dO rfl rfl rfl (op_indexAddr rfl Tryz.underlying27 sz60 (by decide) rfl rfl rfl (get_map hz) ⟨rfl, rfl⟩) ?_
        refine dO rfl rfl rfl (op_load_sptr rfl rfl ta60 rfl ⟨rfl, rfl⟩) <| dO rfl rfl rfl (op_fieldAddr_ref rfl rfl fo30_3 ⟨rfl, rfl⟩) <| dO rfl rfl rfl (op_load' rfl rfl rfl ta27 rfl ⟨rfl, rfl⟩) <| dO rfl rfl rfl (op_move rfl rfl ⟨rfl, rfl⟩) <| dO rfl rfl rfl (op_indexAddr rfl Tryz.underlying27 sz60 (by decide) rfl rfl rfl (get_map hs) ⟨rfl, rfl⟩) ?_
        refine dO rfl rfl rfl (op_load_sptr rfl rfl ta60 rfl ⟨rfl, rfl⟩) <| dOps_op rfl rfl (.cons (op_call rfl rfl rfl co110 (rCmpC_spec z x _)) .nil) <| dO rfl rfl rfl (op_cmp rfl rfl rfl rfl ⟨rfl, rfl⟩) <| dOps_nil ?_
        refine mwp_cond_split rfl (fun h73 => ?_) (fun h73 => ?_)
        ·
         have hcmp : ¬ cmpF z x = 2 := by rw [hre] at h73; simpa using h73
         refine mwp_seq <| qR rfl <| qA rfl rfl rfl <| qN <| mwp_ret ?_
         exact ret_tmp (.inr rfl) Tryz.results80 rfl (.of_eq (by rw [sibs_false hlt (by rw [sibAt_of hs hs2, decide_eq_false (fun hn => hcmp (by have := hn q hlt2; rwa [getD_of hz] at this)), Bool.and_false])])) (.bool _) ⟨rfl, rfl⟩
        ·
         have hcmp : cmpF z x = 2 := by rw [hre] at h73; simpa using h73
         refine mwp_skip <| qR rfl <| qM rfl rfl rfl <| qO rfl <| op_arith rfl rfl rfl rfl <| qA rfl rfl rfl <| qN ?_
         refine ⟨q + 1, by omega, ⟨by omega, fun j hj => ?_⟩, rfl, (.keep rfl (.keep rfl (.keep rfl (.keep rfl (.keep rfl (.keep rfl (.keep rfl (.keep rfl (.keep rfl (.keep rfl (.keep rfl (.keep rfl (.keep rfl (.keep rfl (.keep rfl (.keep rfl (.keep rfl (.keep rfl (.keep rfl (.keep rfl (.keep rfl (.keep rfl (.keep rfl (.keep rfl (.keep rfl (.keep rfl (.keep rfl (.keep rfl (.keep rfl (.keep rfl (.keep rfl (.nil)))))))))))))))))))))))))))))))), (.eq rfl (int_succ (show q < c.length by omega) hlen) (.nil))⟩
         by_cases e : j = q
         ·subst e; rw [getD_of hz]; exact hcmp
         ·exact hin j (by omega)
       ·
        have hge2 : q = i := by simp at h59; omega
        refine mwp_exit <| qR rfl <| qM rfl rfl rfl <| qO rfl <| op_arith rfl rfl rfl rfl <| qA rfl rfl rfl <| qN ?_
        refine ⟨i + 1, by omega, ⟨by omega, fun j hj => ?_⟩, rfl, (.keep rfl (.keep rfl (.nil))), (.eq rfl (int_succ hlt hlen) (.nil))⟩
        by_cases e : j = i
        ·subst e
         rw [sibAt_of hs hs2, show isClockF x = true by simpa using h25, show f _ = true by simpa using h38, decide_eq_true (fun q hq => hin q (by omega))]
         simp_all
        ·exact hall j (by omega)
     ·
      have hi0 : i = 0 := by simp at h41; omega
      refine dS rfl rfl <| dS rfl rfl <| dS rfl rfl <| dS rfl rfl <| dS rfl rfl <| dS rfl rfl <| dS rfl rfl <| dS rfl rfl <| dS rfl rfl <| dS rfl rfl <| dS rfl rfl <| dS rfl rfl <| dS rfl rfl <| dO rfl rfl rfl (op_pick rfl rfl rfl ⟨rfl, rfl⟩) <| dO rfl rfl rfl (op_pick rfl rfl rfl ⟨rfl, rfl⟩) <| dOps_nil <| mwp_cond_f rfl (rfl) <| mwp_skip <| mwp_seq <| qR rfl <| qA rfl rfl rfl <| qN <| mwp_block ?_
      refine mwp_loopK (α := Nat) [(2, _), (3, _), (5, _), (26, _), (27, _), (28, _), (29, _), (30, _), (31, _), (32, _), (33, _), (34, _), (35, _), (36, _), (39, _), (40, _), (41, _), (42, _), (43, _), (44, _), (45, _), (46, _), (47, _), (48, _), (49, _), (50, _), (51, _), (52, _), (53, _), (54, _), (55, _)] (fun q => [(6, .int .i64 (q : Int))]) (fun q => [.cells (encS (.mk k (.mk k1 i1 :: rest))).cells, .cells (encV (.mk n m s c w)).cells]) (fun q => q ≤ i ∧ ∀ j, j < q → cmpF (c.getD j []) x = 2) (fun q => i - q) (0) (.keep rfl (.keep rfl (.keep rfl (.keep rfl (.keep rfl (.keep rfl (.keep rfl (.keep rfl (.keep rfl (.keep rfl (.keep rfl (.keep rfl (.keep rfl (.keep rfl (.keep rfl (.keep rfl (.keep rfl (.keep rfl (.keep rfl (.keep rfl (.keep rfl (.keep rfl (.keep rfl (.keep rfl (.keep rfl (.keep rfl (.keep rfl (.keep rfl (.keep rfl (.keep rfl (.keep rfl (.nil)))))))))))))))))))))))))))))))) (.keep rfl (.nil)) (⟨by omega, fun j hj => by omega⟩) (rfl) ?_
      rintro q ⟨hq, hin⟩
      refine mwp_seq <| mwp_seq <| qR rfl <| qM rfl rfl rfl <| qM rfl rfl rfl <| qC rfl rfl rfl rfl rfl <| qN ?_
      refine mwp_cond_split rfl (fun h59 => ?_) (fun h59 => ?_)
      ·
       have hlt2 : q < i := by simpa using h59
       obtain ⟨z, hz⟩ : ∃ z, c[q]? = some z := ⟨_, List.getElem?_eq_getElem (by omega)⟩
       have hzc := sibAt_clock hz (hall q hlt2)
       have hre := rcmp_eq hzc (show isClockF x = true by simpa using h25) (hc z (List.mem_of_getElem? hz)) (hc x (List.mem_of_getElem? hs))
       refine mwp_skip <| mwp_seq <| mwp_block <| mwp_seq ?_
       refine mwp_draw [] [_] mo (by decide) rfl rfl rfl rfl ?_
       refine dO rfl rfl rfl (op_fieldAddr_ref rfl rfl fo30_3 ⟨rfl, rfl⟩) <| dO rfl rfl rfl (op_load' rfl rfl rfl ta27 rfl ⟨rfl, rfl⟩) <| dO rfl rfl rfl (op_move rfl rfl ⟨rfl, rfl⟩) <| dO rfl rfl rfl (op_indexAddr rfl Tryz.underlying27 sz60 (by decide) rfl rfl rfl (get_map hz) ⟨rfl, rfl⟩) ?_
       refine dO rfl rfl rfl (op_load_sptr rfl rfl ta60 rfl ⟨rfl, rfl⟩) <| dO rfl rfl rfl (op_fieldAddr_ref rfl rfl fo30_3 ⟨rfl, rfl⟩) <| dO rfl rfl rfl (op_load' rfl rfl rfl ta27 rfl ⟨rfl, rfl⟩) <| dO rfl rfl rfl (op_move rfl rfl ⟨rfl, rfl⟩) <| dO rfl rfl rfl (op_indexAddr rfl Tryz.underlying27 sz60 (by decide) rfl rfl rfl (get_map hs) ⟨rfl, rfl⟩) ?_
       refine dO rfl rfl rfl (op_load_sptr rfl rfl ta60 rfl ⟨rfl, rfl⟩) <| dOps_op rfl rfl (.cons (op_call rfl rfl rfl co110 (rCmpC_spec z x _)) .nil) <| dO rfl rfl rfl (op_cmp rfl rfl rfl rfl ⟨rfl, rfl⟩) <| dOps_nil ?_
       refine mwp_cond_split rfl (fun h73 => ?_) (fun h73 => ?_)
       ·
        have hcmp : ¬ cmpF z x = 2 := by rw [hre] at h73; simpa using h73
        refine mwp_seq <| qR rfl <| qA rfl rfl rfl <| qN <| mwp_ret ?_
        exact ret_tmp (.inr rfl) Tryz.results80 rfl (.of_eq (by rw [sibs_false hlt (by rw [sibAt_of hs hs2, decide_eq_false (fun hn => hcmp (by have := hn q hlt2; rwa [getD_of hz] at this)), Bool.and_false])])) (.bool _) ⟨rfl, rfl⟩
       ·
        have hcmp : cmpF z x = 2 := by rw [hre] at h73; simpa using h73
        refine mwp_skip <| qR rfl <| qM rfl rfl rfl <| qO rfl <| op_arith rfl rfl rfl rfl <| qA rfl rfl rfl <| qN ?_
        refine ⟨q + 1, by omega, ⟨by omega, fun j hj => ?_⟩, rfl, (.keep rfl (.keep rfl (.keep rfl (.keep rfl (.keep rfl (.keep rfl (.keep rfl (.keep rfl (.keep rfl (.keep rfl (.keep rfl (.keep rfl (.keep rfl (.keep rfl (.keep rfl (.keep rfl (.keep rfl (.keep rfl (.keep rfl (.keep rfl (.keep rfl (.keep rfl (.keep rfl (.keep rfl (.keep rfl (.keep rfl (.keep rfl (.keep rfl (.keep rfl (.keep rfl (.keep rfl (.nil)))))))))))))))))))))))))))))))), (.eq rfl (int_succ (show q < c.length by omega) hlen) (.nil))⟩
        by_cases e : j = q
        ·subst e; rw [getD_of hz]; exact hcmp
        ·exact hin j (by omega)
      ·
       have hge2 : q = i := by simp at h59; omega
       refine mwp_exit <| qR rfl <| qM rfl rfl rfl <| qO rfl <| op_arith rfl rfl rfl rfl <| qA rfl rfl rfl <| qN ?_
       refine ⟨i + 1, by omega, ⟨by omega, fun j hj => ?_⟩, rfl, (.keep rfl (.keep rfl (.nil))), (.eq rfl (int_succ hlt hlen) (.nil))⟩
       by_cases e : j = i
       ·subst e
        rw [sibAt_of hs hs2, show isClockF x = true by simpa using h25, show f _ = true by simpa using h38, decide_eq_true (fun q hq => hin q (by omega))]
        simp_all
       ·exact hall j (by omega)
  ·
   have hge : i = c.length := by simp at h15; omega
   refine mwp_exit <| mwp_seq <| qR rfl <| qA rfl rfl rfl <| qN <| mwp_ret ?_
   exact ret_tmp (.inr rfl) Tryz.results80 rfl (.of_eq (by rw [sibs_true c40 (fun j hj => hall j (by omega))])) (.bool _) ⟨rfl, rfl⟩
theorem isR_spec (d : Nat) : ∀ (s : Sch), isF d s = true → ∀ x : Val, okV x → ∀ S : MS, MCalls Tryz.prog 46 [encS s, encV x] S fun v σ' => v = .bool (isRF s x) ∧ σ' = S := by
 induction d with
 | zero => intro s h; simp [isF] at h
 | succ d ih =>
 rintro ⟨k, ins⟩ hd ⟨n, m, s, c, w⟩ hv S
 rw [isF] at hd
 simp only [Bool.and_eq_true, List.all_eq_true, beq_iff_eq] at hd
 simp only [okV] at hv
 have hvs := okVs_iff.1 hv.2.2.2
 rcases k8_of hd.1 with rfl | rfl | rfl | rfl | rfl | rfl | rfl | rfl
 ·
  refine mcalls_body Tryz.func46 rfl Tryz.ntmps46 (Nat.le_of_ble_eq_true rfl) ?_
  refine mwp_seq <| qR rfl <| qB rfl rfl rfl rfl rfl <| qB rfl rfl rfl rfl rfl <| qA rfl rfl rfl <| qN <| mwp_seq <| mwp_seq <| qR rfl <| qL rfl rfl rfl rfl ta24 rfl <| qL rfl rfl rfl rfl ta30 rfl ?_
  refine wOps_op rfl (op_call rfl rfl rfl co77 ((fits_spec 1 _ (by omega) n m s c w _).mono ?_))
  rintro _ _ ⟨rfl, rfl⟩
  refine qO rfl <| op_not rfl rfl <| qM rfl rfl rfl ?_
  refine wOps_case (fun h10 => ?_) (fun h10 => ?_)
  ·
   refine qS rfl <| qS rfl <| qS rfl <| qS rfl <| qP rfl rfl rfl rfl <| qM rfl rfl rfl <| qS rfl <| qS rfl <| qS rfl <| qS rfl <| qP rfl rfl rfl rfl <| qN <| mwp_cond_t rfl (rfl) <| mwp_seq <| qR rfl <| qA rfl rfl rfl <| qN <| mwp_ret ?_
   exact ret_tmp (.inr rfl) Tryz.results46 rfl (.of_eq (by rw [isRF_mk 1]; congr 1; symm; first | (rw [show fitsF 1 _ = false by simpa using h10]; rfl) | (rw [show risesF s = false by simpa using h16]; simp; done) | (rw [s40f]; simp; done))) (.bool _) ⟨rfl, rfl⟩
  ·
   refine qF rfl rfl rfl fo30_2 <| qL rfl rfl rfl rfl ta26 rfl ?_
   refine wOps_op rfl (op_call rfl rfl rfl co78 ((rRises_spec s _).mono ?_))
   rintro _ _ ⟨rfl, rfl⟩
   refine qO rfl <| op_not rfl rfl <| qP rfl rfl rfl rfl <| qM rfl rfl rfl ?_
   refine wOps_case (fun h16 => ?_) (fun h16 => ?_)
   ·
    refine qS rfl <| qS rfl <| qS rfl <| qS rfl <| qP rfl rfl rfl rfl <| qN <| mwp_cond_t rfl (rfl) <| mwp_seq <| qR rfl <| qA rfl rfl rfl <| qN <| mwp_ret ?_
    exact ret_tmp (.inr rfl) Tryz.results46 rfl (.of_eq (by rw [isRF_mk 1]; congr 1; symm; first | (rw [show fitsF 1 _ = false by simpa using h10]; rfl) | (rw [show risesF s = false by simpa using h16]; simp; done) | (rw [s40f]; simp; done))) (.bool _) ⟨rfl, rfl⟩
   ·
    refine qF rfl rfl rfl fo30_2 <| qL rfl rfl rfl rfl ta26 rfl <| qE rfl rfl Tryz.underlying26 rfl <| qC rfl rfl rfl rfl rfl <| qP rfl rfl rfl rfl <| qN ?_
    refine mwp_cond_split rfl (fun h21 => ?_) (fun h21 => ?_)
    ·
     have s40f := decide_eq_false (by rw [List.length_map] at h21; simp at h21; omega : ¬ s.length ≤ 40)
     refine mwp_seq <| qR rfl <| qA rfl rfl rfl <| qN <| mwp_ret ?_
     exact ret_tmp (.inr rfl) Tryz.results46 rfl (.of_eq (by rw [isRF_mk 1]; congr 1; symm; first | (rw [show fitsF 1 _ = false by simpa using h10]; rfl) | (rw [show risesF s = false by simpa using h16]; simp; done) | (rw [s40f]; simp; done))) (.bool _) ⟨rfl, rfl⟩
    ·
     have s40t := decide_eq_true (by rw [List.length_map] at h21; simp at h21; omega : s.length ≤ 40)
     have hfit : fitsF 1 (.mk n m s c w) = true := by simpa using h10
     have hris : risesF s = true := by simpa using h16
     refine mwp_skip <| mwp_seq <| mwp_seq <| qR rfl <| qF rfl rfl rfl fo24_0 <| qL rfl rfl rfl rfl ta3 rfl <| qN <| mwp_block <| mwp_seq <| qR rfl <| qC rfl rfl rfl rfl rfl <| qA rfl rfl rfl <| qN <| mwp_cond_f rfl (rfl) <| mwp_seq <| qR rfl <| qC rfl rfl rfl rfl rfl <| qA rfl rfl rfl <| qN <| mwp_cond_f rfl (rfl) <| mwp_seq <| qR rfl <| qC rfl rfl rfl rfl rfl ?_
     refine qA rfl rfl rfl <| qN <| mwp_cond_f rfl (rfl) <| mwp_seq <| qR rfl <| qC rfl rfl rfl rfl rfl <| qA rfl rfl rfl <| qN <| mwp_cond_f rfl (rfl) <| mwp_skip <| mwp_seq <| qR rfl <| qA rfl rfl rfl <| qN <| mwp_ret ?_
     exact ret_tmp (.inr rfl) Tryz.results46 rfl (.of_eq (by rw [isRF_mk 1]; rw [hfit, hris, s40t]; simp only [Bool.true_and, isRL, List.headD_cons, List.tail_cons]; rfl)) (.bool _) ⟨rfl, rfl⟩
 ·
  refine mcalls_body Tryz.func46 rfl Tryz.ntmps46 (Nat.le_of_ble_eq_true rfl) ?_
  refine mwp_seq <| qR rfl <| qB rfl rfl rfl rfl rfl <| qB rfl rfl rfl rfl rfl <| qA rfl rfl rfl <| qN <| mwp_seq <| mwp_seq <| qR rfl <| qL rfl rfl rfl rfl ta24 rfl <| qL rfl rfl rfl rfl ta30 rfl ?_
  refine wOps_op rfl (op_call rfl rfl rfl co77 ((fits_spec 2 _ (by omega) n m s c w _).mono ?_))
  rintro _ _ ⟨rfl, rfl⟩
  refine qO rfl <| op_not rfl rfl <| qM rfl rfl rfl ?_
  refine wOps_case (fun h10 => ?_) (fun h10 => ?_)
  ·
   refine qS rfl <| qS rfl <| qS rfl <| qS rfl <| qP rfl rfl rfl rfl <| qM rfl rfl rfl <| qS rfl <| qS rfl <| qS rfl <| qS rfl <| qP rfl rfl rfl rfl <| qN <| mwp_cond_t rfl (rfl) <| mwp_seq <| qR rfl <| qA rfl rfl rfl <| qN <| mwp_ret ?_
   exact ret_tmp (.inr rfl) Tryz.results46 rfl (.of_eq (by rw [isRF_mk 2]; congr 1; symm; first | (rw [show fitsF 2 _ = false by simpa using h10]; rfl) | (rw [show risesF s = false by simpa using h16]; simp; done) | (rw [s40f]; simp; done))) (.bool _) ⟨rfl, rfl⟩
  ·
   refine qF rfl rfl rfl fo30_2 <| qL rfl rfl rfl rfl ta26 rfl ?_
   refine wOps_op rfl (op_call rfl rfl rfl co78 ((rRises_spec s _).mono ?_))
   rintro _ _ ⟨rfl, rfl⟩
   refine qO rfl <| op_not rfl rfl <| qP rfl rfl rfl rfl <| qM rfl rfl rfl ?_
   refine wOps_case (fun h16 => ?_) (fun h16 => ?_)
   ·
    refine qS rfl <| qS rfl <| qS rfl <| qS rfl <| qP rfl rfl rfl rfl <| qN <| mwp_cond_t rfl (rfl) <| mwp_seq <| qR rfl <| qA rfl rfl rfl <| qN <| mwp_ret ?_
    exact ret_tmp (.inr rfl) Tryz.results46 rfl (.of_eq (by rw [isRF_mk 2]; congr 1; symm; first | (rw [show fitsF 2 _ = false by simpa using h10]; rfl) | (rw [show risesF s = false by simpa using h16]; simp; done) | (rw [s40f]; simp; done))) (.bool _) ⟨rfl, rfl⟩
   ·
    refine qF rfl rfl rfl fo30_2 <| qL rfl rfl rfl rfl ta26 rfl <| qE rfl rfl Tryz.underlying26 rfl <| qC rfl rfl rfl rfl rfl <| qP rfl rfl rfl rfl <| qN ?_
    refine mwp_cond_split rfl (fun h21 => ?_) (fun h21 => ?_)
    ·
     have s40f := decide_eq_false (by rw [List.length_map] at h21; simp at h21; omega : ¬ s.length ≤ 40)
     refine mwp_seq <| qR rfl <| qA rfl rfl rfl <| qN <| mwp_ret ?_
     exact ret_tmp (.inr rfl) Tryz.results46 rfl (.of_eq (by rw [isRF_mk 2]; congr 1; symm; first | (rw [show fitsF 2 _ = false by simpa using h10]; rfl) | (rw [show risesF s = false by simpa using h16]; simp; done) | (rw [s40f]; simp; done))) (.bool _) ⟨rfl, rfl⟩
    ·
     have s40t := decide_eq_true (by rw [List.length_map] at h21; simp at h21; omega : s.length ≤ 40)
     have hfit : fitsF 2 (.mk n m s c w) = true := by simpa using h10
     have hris : risesF s = true := by simpa using h16
     refine mwp_skip <| mwp_seq <| mwp_seq <| qR rfl <| qF rfl rfl rfl fo24_0 <| qL rfl rfl rfl rfl ta3 rfl <| qN <| mwp_block <| mwp_seq <| qR rfl <| qC rfl rfl rfl rfl rfl <| qA rfl rfl rfl <| qN <| mwp_cond_f rfl (rfl) <| mwp_seq <| qR rfl <| qC rfl rfl rfl rfl rfl <| qA rfl rfl rfl <| qN <| mwp_cond_f rfl (rfl) <| mwp_seq <| qR rfl <| qC rfl rfl rfl rfl rfl ?_
     refine qA rfl rfl rfl <| qN <| mwp_cond_f rfl (rfl) <| mwp_seq <| qR rfl <| qC rfl rfl rfl rfl rfl <| qA rfl rfl rfl <| qN <| mwp_cond_f rfl (rfl) <| mwp_skip <| mwp_seq <| qR rfl <| qA rfl rfl rfl <| qN <| mwp_ret ?_
     exact ret_tmp (.inr rfl) Tryz.results46 rfl (.of_eq (by rw [isRF_mk 2]; rw [hfit, hris, s40t]; simp only [Bool.true_and, isRL, List.headD_cons, List.tail_cons]; rfl)) (.bool _) ⟨rfl, rfl⟩
 ·
  refine mcalls_body Tryz.func46 rfl Tryz.ntmps46 (Nat.le_of_ble_eq_true rfl) ?_
  refine mwp_seq <| qR rfl <| qB rfl rfl rfl rfl rfl <| qB rfl rfl rfl rfl rfl <| qA rfl rfl rfl <| qN <| mwp_seq <| mwp_seq <| qR rfl <| qL rfl rfl rfl rfl ta24 rfl <| qL rfl rfl rfl rfl ta30 rfl ?_
  refine wOps_op rfl (op_call rfl rfl rfl co77 ((fits_spec 3 _ (by omega) n m s c w _).mono ?_))
  rintro _ _ ⟨rfl, rfl⟩
  refine qO rfl <| op_not rfl rfl <| qM rfl rfl rfl ?_
  refine wOps_case (fun h10 => ?_) (fun h10 => ?_)
  ·
   refine qS rfl <| qS rfl <| qS rfl <| qS rfl <| qP rfl rfl rfl rfl <| qM rfl rfl rfl <| qS rfl <| qS rfl <| qS rfl <| qS rfl <| qP rfl rfl rfl rfl <| qN <| mwp_cond_t rfl (rfl) <| mwp_seq <| qR rfl <| qA rfl rfl rfl <| qN <| mwp_ret ?_
   exact ret_tmp (.inr rfl) Tryz.results46 rfl (.of_eq (by rw [isRF_mk 3]; congr 1; symm; first | (rw [show fitsF 3 _ = false by simpa using h10]; rfl) | (rw [show risesF s = false by simpa using h16]; simp; done) | (rw [s40f]; simp; done))) (.bool _) ⟨rfl, rfl⟩
  ·
   refine qF rfl rfl rfl fo30_2 <| qL rfl rfl rfl rfl ta26 rfl ?_
   refine wOps_op rfl (op_call rfl rfl rfl co78 ((rRises_spec s _).mono ?_))
   rintro _ _ ⟨rfl, rfl⟩
   refine qO rfl <| op_not rfl rfl <| qP rfl rfl rfl rfl <| qM rfl rfl rfl ?_
   refine wOps_case (fun h16 => ?_) (fun h16 => ?_)
   ·
    refine qS rfl <| qS rfl <| qS rfl <| qS rfl <| qP rfl rfl rfl rfl <| qN <| mwp_cond_t rfl (rfl) <| mwp_seq <| qR rfl <| qA rfl rfl rfl <| qN <| mwp_ret ?_
    exact ret_tmp (.inr rfl) Tryz.results46 rfl (.of_eq (by rw [isRF_mk 3]; congr 1; symm; first | (rw [show fitsF 3 _ = false by simpa using h10]; rfl) | (rw [show risesF s = false by simpa using h16]; simp; done) | (rw [s40f]; simp; done))) (.bool _) ⟨rfl, rfl⟩
   ·
    refine qF rfl rfl rfl fo30_2 <| qL rfl rfl rfl rfl ta26 rfl <| qE rfl rfl Tryz.underlying26 rfl <| qC rfl rfl rfl rfl rfl <| qP rfl rfl rfl rfl <| qN ?_
    refine mwp_cond_split rfl (fun h21 => ?_) (fun h21 => ?_)
    ·
     have s40f := decide_eq_false (by rw [List.length_map] at h21; simp at h21; omega : ¬ s.length ≤ 40)
     refine mwp_seq <| qR rfl <| qA rfl rfl rfl <| qN <| mwp_ret ?_
     exact ret_tmp (.inr rfl) Tryz.results46 rfl (.of_eq (by rw [isRF_mk 3]; congr 1; symm; first | (rw [show fitsF 3 _ = false by simpa using h10]; rfl) | (rw [show risesF s = false by simpa using h16]; simp; done) | (rw [s40f]; simp; done))) (.bool _) ⟨rfl, rfl⟩
    ·
     have s40t := decide_eq_true (by rw [List.length_map] at h21; simp at h21; omega : s.length ≤ 40)
     have hfit : fitsF 3 (.mk n m s c w) = true := by simpa using h10
     have hris : risesF s = true := by simpa using h16
     refine mwp_skip <| mwp_seq <| mwp_seq <| qR rfl <| qF rfl rfl rfl fo24_0 <| qL rfl rfl rfl rfl ta3 rfl <| qN <| mwp_block <| mwp_seq <| qR rfl <| qC rfl rfl rfl rfl rfl <| qA rfl rfl rfl <| qN <| mwp_cond_f rfl (rfl) <| mwp_seq <| qR rfl <| qC rfl rfl rfl rfl rfl <| qA rfl rfl rfl <| qN <| mwp_cond_f rfl (rfl) <| mwp_seq <| qR rfl <| qC rfl rfl rfl rfl rfl ?_
     refine qA rfl rfl rfl <| qN <| mwp_cond_f rfl (rfl) <| mwp_seq <| qR rfl <| qC rfl rfl rfl rfl rfl <| qA rfl rfl rfl <| qN <| mwp_cond_f rfl (rfl) <| mwp_skip <| mwp_seq <| qR rfl <| qA rfl rfl rfl <| qN <| mwp_ret ?_
     exact ret_tmp (.inr rfl) Tryz.results46 rfl (.of_eq (by rw [isRF_mk 3]; rw [hfit, hris, s40t]; simp only [Bool.true_and, isRL, List.headD_cons, List.tail_cons]; rfl)) (.bool _) ⟨rfl, rfl⟩
 ·
  obtain ⟨⟨k1, i1⟩, rfl⟩ := one_ins hd.1 (by decide)
  have ih1 := ih (.mk k1 i1) (hd.2 _ (by simp))
  refine mcalls_body Tryz.func46 rfl Tryz.ntmps46 (Nat.le_of_ble_eq_true rfl) ?_
  refine mwp_seq <| qR rfl <| qB rfl rfl rfl rfl rfl <| qB rfl rfl rfl rfl rfl <| qA rfl rfl rfl <| qN <| mwp_seq <| mwp_seq <| qR rfl <| qL rfl rfl rfl rfl ta24 rfl <| qL rfl rfl rfl rfl ta30 rfl ?_
  refine wOps_op rfl (op_call rfl rfl rfl co77 ((fits_spec 4 _ (by omega) n m s c w _).mono ?_))
  rintro _ _ ⟨rfl, rfl⟩
  refine qO rfl <| op_not rfl rfl <| qM rfl rfl rfl ?_
  refine wOps_case (fun h10 => ?_) (fun h10 => ?_)
  ·
   refine qS rfl <| qS rfl <| qS rfl <| qS rfl <| qP rfl rfl rfl rfl <| qM rfl rfl rfl <| qS rfl <| qS rfl <| qS rfl <| qS rfl <| qP rfl rfl rfl rfl <| qN <| mwp_cond_t rfl (rfl) <| mwp_seq <| qR rfl <| qA rfl rfl rfl <| qN <| mwp_ret ?_
   exact ret_tmp (.inr rfl) Tryz.results46 rfl (.of_eq (by rw [isRF_mk 4]; congr 1; symm; first | (rw [show fitsF 4 _ = false by simpa using h10]; rfl) | (rw [show risesF s = false by simpa using h16]; simp; done) | (rw [s40f]; simp; done))) (.bool _) ⟨rfl, rfl⟩
  ·
   refine qF rfl rfl rfl fo30_2 <| qL rfl rfl rfl rfl ta26 rfl ?_
   refine wOps_op rfl (op_call rfl rfl rfl co78 ((rRises_spec s _).mono ?_))
   rintro _ _ ⟨rfl, rfl⟩
   refine qO rfl <| op_not rfl rfl <| qP rfl rfl rfl rfl <| qM rfl rfl rfl ?_
   refine wOps_case (fun h16 => ?_) (fun h16 => ?_)
   ·
    refine qS rfl <| qS rfl <| qS rfl <| qS rfl <| qP rfl rfl rfl rfl <| qN <| mwp_cond_t rfl (rfl) <| mwp_seq <| qR rfl <| qA rfl rfl rfl <| qN <| mwp_ret ?_
    exact ret_tmp (.inr rfl) Tryz.results46 rfl (.of_eq (by rw [isRF_mk 4]; congr 1; symm; first | (rw [show fitsF 4 _ = false by simpa using h10]; rfl) | (rw [show risesF s = false by simpa using h16]; simp; done) | (rw [s40f]; simp; done))) (.bool _) ⟨rfl, rfl⟩
   ·
    refine qF rfl rfl rfl fo30_2 <| qL rfl rfl rfl rfl ta26 rfl <| qE rfl rfl Tryz.underlying26 rfl <| qC rfl rfl rfl rfl rfl <| qP rfl rfl rfl rfl <| qN ?_
    refine mwp_cond_split rfl (fun h21 => ?_) (fun h21 => ?_)
    ·
     have s40f := decide_eq_false (by rw [List.length_map] at h21; simp at h21; omega : ¬ s.length ≤ 40)
     refine mwp_seq <| qR rfl <| qA rfl rfl rfl <| qN <| mwp_ret ?_
     exact ret_tmp (.inr rfl) Tryz.results46 rfl (.of_eq (by rw [isRF_mk 4]; congr 1; symm; first | (rw [show fitsF 4 _ = false by simpa using h10]; rfl) | (rw [show risesF s = false by simpa using h16]; simp; done) | (rw [s40f]; simp; done))) (.bool _) ⟨rfl, rfl⟩
    ·
     have s40t := decide_eq_true (by rw [List.length_map] at h21; simp at h21; omega : s.length ≤ 40)
     have hfit : fitsF 4 (.mk n m s c w) = true := by simpa using h10
     have hris : risesF s = true := by simpa using h16
     refine mwp_skip <| mwp_seq <| mwp_seq <| qR rfl <| qF rfl rfl rfl fo24_0 <| qL rfl rfl rfl rfl ta3 rfl <| qN <| mwp_block <| mwp_seq <| qR rfl <| qC rfl rfl rfl rfl rfl <| qA rfl rfl rfl <| qN <| mwp_cond_t rfl (rfl) <| mwp_seq <| qR rfl <| qA rfl rfl rfl <| qN <| mwp_block ?_
     refine mwp_loopK (α := Nat) [(2, _), (3, _)] (fun i => [(5, .int .i64 (i : Int))]) (fun i => [.cells (encS (.mk 4 [.mk k1 i1])).cells, .cells (encV (.mk n m s c w)).cells]) (fun i => i ≤ w.length ∧ (w.take i).all (fun x => isRF (.mk k1 i1) x && !noneF (.mk k1 i1) x) = true) (fun i => w.length - i) (0) (.keep rfl (.keep rfl (.nil))) (.keep rfl (.nil)) (⟨by omega, rfl⟩) (rfl) ?_
     rintro i ⟨hi, hall⟩
     refine mwp_seq <| mwp_seq <| qR rfl <| qM rfl rfl rfl <| qF rfl rfl rfl fo30_4 <| qL rfl rfl rfl rfl ta28 rfl <| qE rfl rfl Tryz.underlying28 rfl <| qC rfl rfl rfl rfl rfl <| qN ?_
     refine mwp_cond_split rfl (fun h30 => ?_) (fun h30 => ?_)
     ·
      rw [encVs_length] at h30
      have hlt : i < w.length := by simpa using h30
      obtain ⟨⟨n1, m1, s1, c1, w1⟩, hs⟩ : ∃ q, w[i]? = some q := ⟨_, List.getElem?_eq_getElem hlt⟩
      refine mwp_len (t := 28) rfl fun hlen => ?_
      rw [encVs_length] at hlen
      refine mwp_skip <| mwp_seq <| mwp_block <| mwp_seq ?_
      refine mwp_draw [] [_] mo (by decide) rfl rfl rfl rfl ?_
      refine dO rfl rfl rfl (op_fieldAddr_ref rfl rfl fo24_1 ⟨rfl, rfl⟩) <| dO rfl rfl rfl (op_load' rfl rfl rfl ta22 rfl ⟨rfl, rfl⟩) <| dO rfl rfl rfl (op_indexAddr rfl Tryz.underlying22 sz24 (by decide) rfl rfl rfl (show _ = some (encS (.mk k1 i1)) from rfl) ⟨rfl, rfl⟩) ?_
      refine dO rfl rfl rfl (op_load_sptr rfl rfl ta24 rfl ⟨rfl, rfl⟩) <| dO rfl rfl rfl (op_fieldAddr_ref rfl rfl fo30_4 ⟨rfl, rfl⟩) <| dO rfl rfl rfl (op_load' rfl rfl rfl ta28 rfl ⟨rfl, rfl⟩) <| dO rfl rfl rfl (op_move rfl rfl ⟨rfl, rfl⟩) <| dO rfl rfl rfl (op_indexAddr rfl Tryz.underlying28 sz30 (by decide) rfl rfl rfl (encVs_get hs) ⟨rfl, rfl⟩) ?_
      refine dO rfl rfl rfl (op_load_sptr rfl rfl ta30 rfl ⟨rfl, rfl⟩) <| dOps_op rfl rfl (.cons (op_call rfl rfl rfl co46 (ih1 (.mk n1 m1 s1 c1 w1) (hvs _ (List.mem_of_getElem? hs)) _)) .nil) <| dO rfl rfl rfl (op_not rfl rfl ⟨rfl, rfl⟩) <| dO rfl rfl rfl (op_move rfl rfl ⟨rfl, rfl⟩) ?_
      refine dOps_case (fun h44 => ?_) (fun h44 => ?_)
      ·
       refine dS rfl rfl <| dS rfl rfl <| dS rfl rfl <| dS rfl rfl <| dS rfl rfl <| dS rfl rfl <| dS rfl rfl <| dS rfl rfl <| dS rfl rfl <| dS rfl rfl <| dO rfl rfl rfl (op_pick rfl rfl rfl ⟨rfl, rfl⟩) <| dOps_nil <| mwp_cond_t rfl (rfl) <| mwp_seq <| qR rfl <| qA rfl rfl rfl <| qN <| mwp_ret ?_
       exact ret_tmp (.inr rfl) Tryz.results46 rfl (.of_eq (by rw [isRF_mk 4]; rw [hfit, hris, s40t]; simp only [Bool.true_and, isRL, List.headD_cons, List.tail_cons]; congr 1; symm; show w.all (fun x => isRF (.mk k1 i1) x && !noneF (.mk k1 i1) x) = false; rw [List.all_eq_false]; exact ⟨_, List.mem_of_getElem? hs, by simp_all⟩)) (.bool _) ⟨rfl, rfl⟩
      ·
       refine dO rfl rfl rfl (op_fieldAddr_ref rfl rfl fo24_1 ⟨rfl, rfl⟩) <| dO rfl rfl rfl (op_load' rfl rfl rfl ta22 rfl ⟨rfl, rfl⟩) <| dO rfl rfl rfl (op_indexAddr rfl Tryz.underlying22 sz24 (by decide) rfl rfl rfl (show _ = some (encS (.mk k1 i1)) from rfl) ⟨rfl, rfl⟩) ?_
       refine dO rfl rfl rfl (op_load_sptr rfl rfl ta24 rfl ⟨rfl, rfl⟩) <| dO rfl rfl rfl (op_fieldAddr_ref rfl rfl fo30_4 ⟨rfl, rfl⟩) <| dO rfl rfl rfl (op_load' rfl rfl rfl ta28 rfl ⟨rfl, rfl⟩) <| dO rfl rfl rfl (op_move rfl rfl ⟨rfl, rfl⟩) <| dO rfl rfl rfl (op_indexAddr rfl Tryz.underlying28 sz30 (by decide) rfl rfl rfl (encVs_get hs) ⟨rfl, rfl⟩) ?_
       refine dO rfl rfl rfl (op_load_sptr rfl rfl ta30 rfl ⟨rfl, rfl⟩) <| dOps_op rfl rfl (.cons (op_call rfl rfl rfl co29 (rNone_spec (.mk k1 i1) (.mk n1 m1 s1 c1 w1) _)) .nil) <| dO rfl rfl rfl (op_pick rfl rfl rfl ⟨rfl, rfl⟩) <| dOps_nil ?_
       refine mwp_cond_split rfl (fun h55 => ?_) (fun h55 => ?_)
       ·
        refine mwp_seq <| qR rfl <| qA rfl rfl rfl <| qN <| mwp_ret ?_
        exact ret_tmp (.inr rfl) Tryz.results46 rfl (.of_eq (by rw [isRF_mk 4]; rw [hfit, hris, s40t]; simp only [Bool.true_and, isRL, List.headD_cons, List.tail_cons]; congr 1; symm; show w.all (fun x => isRF (.mk k1 i1) x && !noneF (.mk k1 i1) x) = false; rw [List.all_eq_false]; exact ⟨_, List.mem_of_getElem? hs, by simp_all⟩)) (.bool _) ⟨rfl, rfl⟩
       ·
        refine mwp_skip <| qR rfl <| qM rfl rfl rfl <| qO rfl <| op_arith rfl rfl rfl rfl <| qA rfl rfl rfl <| qN ?_
        refine ⟨i + 1, by omega, ⟨by omega, ?_⟩, rfl, (.keep rfl (.keep rfl (.nil))), (.eq rfl (int_succ hlt hlen) (.nil))⟩
        rw [List.take_add_one, hs, List.all_append, hall]
        simp_all
     ·
      rw [encVs_length] at h30
      have hge : i = w.length := by simp at h30; omega
      refine mwp_exit <| mwp_seq <| qR rfl <| qA rfl rfl rfl <| qN <| mwp_ret ?_
      exact ret_tmp (.inr rfl) Tryz.results46 rfl (.of_eq (by rw [isRF_mk 4]; rw [hfit, hris, s40t]; simp only [Bool.true_and, isRL, List.headD_cons, List.tail_cons]; congr 1; symm; show w.all (fun x => isRF (.mk k1 i1) x && !noneF (.mk k1 i1) x) = true; rw [hge, List.take_length] at hall; exact hall)) (.bool _) ⟨rfl, rfl⟩
 ·
  obtain ⟨⟨k1, i1⟩, ⟨k2, i2⟩, rfl⟩ := two_of hd.1
  have ih1 := ih (.mk k1 i1) (hd.2 _ (by simp))
  have ih2 := ih (.mk k2 i2) (hd.2 _ (by simp))
  refine mcalls_body Tryz.func46 rfl Tryz.ntmps46 (Nat.le_of_ble_eq_true rfl) ?_
  refine mwp_seq <| qR rfl <| qB rfl rfl rfl rfl rfl <| qB rfl rfl rfl rfl rfl <| qA rfl rfl rfl <| qN <| mwp_seq <| mwp_seq <| qR rfl <| qL rfl rfl rfl rfl ta24 rfl <| qL rfl rfl rfl rfl ta30 rfl ?_
  refine wOps_op rfl (op_call rfl rfl rfl co77 ((fits_spec 5 _ (by omega) n m s c w _).mono ?_))
  rintro _ _ ⟨rfl, rfl⟩
  refine qO rfl <| op_not rfl rfl <| qM rfl rfl rfl ?_
  refine wOps_case (fun h10 => ?_) (fun h10 => ?_)
  ·
   refine qS rfl <| qS rfl <| qS rfl <| qS rfl <| qP rfl rfl rfl rfl <| qM rfl rfl rfl <| qS rfl <| qS rfl <| qS rfl <| qS rfl <| qP rfl rfl rfl rfl <| qN <| mwp_cond_t rfl (rfl) <| mwp_seq <| qR rfl <| qA rfl rfl rfl <| qN <| mwp_ret ?_
   exact ret_tmp (.inr rfl) Tryz.results46 rfl (.of_eq (by rw [isRF_mk 5]; congr 1; symm; first | (rw [show fitsF 5 _ = false by simpa using h10]; rfl) | (rw [show risesF s = false by simpa using h16]; simp; done) | (rw [s40f]; simp; done))) (.bool _) ⟨rfl, rfl⟩
  ·
   refine qF rfl rfl rfl fo30_2 <| qL rfl rfl rfl rfl ta26 rfl ?_
   refine wOps_op rfl (op_call rfl rfl rfl co78 ((rRises_spec s _).mono ?_))
   rintro _ _ ⟨rfl, rfl⟩
   refine qO rfl <| op_not rfl rfl <| qP rfl rfl rfl rfl <| qM rfl rfl rfl ?_
   refine wOps_case (fun h16 => ?_) (fun h16 => ?_)
   ·
    refine qS rfl <| qS rfl <| qS rfl <| qS rfl <| qP rfl rfl rfl rfl <| qN <| mwp_cond_t rfl (rfl) <| mwp_seq <| qR rfl <| qA rfl rfl rfl <| qN <| mwp_ret ?_
    exact ret_tmp (.inr rfl) Tryz.results46 rfl (.of_eq (by rw [isRF_mk 5]; congr 1; symm; first | (rw [show fitsF 5 _ = false by simpa using h10]; rfl) | (rw [show risesF s = false by simpa using h16]; simp; done) | (rw [s40f]; simp; done))) (.bool _) ⟨rfl, rfl⟩
   ·
    refine qF rfl rfl rfl fo30_2 <| qL rfl rfl rfl rfl ta26 rfl <| qE rfl rfl Tryz.underlying26 rfl <| qC rfl rfl rfl rfl rfl <| qP rfl rfl rfl rfl <| qN ?_
    refine mwp_cond_split rfl (fun h21 => ?_) (fun h21 => ?_)
    ·
     have s40f := decide_eq_false (by rw [List.length_map] at h21; simp at h21; omega : ¬ s.length ≤ 40)
     refine mwp_seq <| qR rfl <| qA rfl rfl rfl <| qN <| mwp_ret ?_
     exact ret_tmp (.inr rfl) Tryz.results46 rfl (.of_eq (by rw [isRF_mk 5]; congr 1; symm; first | (rw [show fitsF 5 _ = false by simpa using h10]; rfl) | (rw [show risesF s = false by simpa using h16]; simp; done) | (rw [s40f]; simp; done))) (.bool _) ⟨rfl, rfl⟩
    ·
     have s40t := decide_eq_true (by rw [List.length_map] at h21; simp at h21; omega : s.length ≤ 40)
     have hfit : fitsF 5 (.mk n m s c w) = true := by simpa using h10
     have hris : risesF s = true := by simpa using h16
     refine mwp_skip <| mwp_seq <| mwp_seq <| qR rfl <| qF rfl rfl rfl fo24_0 <| qL rfl rfl rfl rfl ta3 rfl <| qN <| mwp_block <| mwp_seq <| qR rfl <| qC rfl rfl rfl rfl rfl <| qA rfl rfl rfl <| qN <| mwp_cond_f rfl (rfl) <| mwp_seq <| qR rfl <| qC rfl rfl rfl rfl rfl <| qA rfl rfl rfl <| qN <| mwp_cond_t rfl (rfl) <| mwp_seq ?_
     obtain ⟨⟨n1, m1, s1, c1, w1⟩, ⟨n2, m2, s2, c2, w2⟩, rfl⟩ := two_of' (fits5 hfit)
     refine mwp_draw [] [_] mo (by decide) rfl rfl rfl rfl ?_
     refine dO rfl rfl rfl (op_fieldAddr_ref rfl rfl fo24_1 ⟨rfl, rfl⟩) <| dO rfl rfl rfl (op_load' rfl rfl rfl ta22 rfl ⟨rfl, rfl⟩) <| dO rfl rfl rfl (op_indexAddr rfl Tryz.underlying22 sz24 (by decide) rfl rfl rfl (show _ = some (encS (.mk k1 i1)) from rfl) ⟨rfl, rfl⟩) ?_
     refine dO rfl rfl rfl (op_load_sptr rfl rfl ta24 rfl ⟨rfl, rfl⟩) <| dO rfl rfl rfl (op_fieldAddr_ref rfl rfl fo30_4 ⟨rfl, rfl⟩) <| dO rfl rfl rfl (op_load' rfl rfl rfl ta28 rfl ⟨rfl, rfl⟩) <| dO rfl rfl rfl (op_indexAddr rfl Tryz.underlying28 sz30 (by decide) rfl rfl rfl (show _ = some (encV (.mk n1 m1 s1 c1 w1)) from rfl) ⟨rfl, rfl⟩) ?_
     refine dO rfl rfl rfl (op_load_sptr rfl rfl ta30 rfl ⟨rfl, rfl⟩) <| dOps_op rfl rfl (.cons (op_call rfl rfl rfl co46 (ih1 (.mk n1 m1 s1 c1 w1) (hvs _ (by simp)) _)) .nil) ?_
     refine dO rfl rfl rfl (op_move rfl rfl ⟨rfl, rfl⟩) ?_
     refine dOps_case (fun h67 => ?_) (fun h67 => ?_)
     ·
      refine dO rfl rfl rfl (op_fieldAddr_ref rfl rfl fo24_1 ⟨rfl, rfl⟩) <| dO rfl rfl rfl (op_load' rfl rfl rfl ta22 rfl ⟨rfl, rfl⟩) <| dO rfl rfl rfl (op_indexAddr rfl Tryz.underlying22 sz24 (by decide) rfl rfl rfl (show _ = some (encS (.mk k2 i2)) from rfl) ⟨rfl, rfl⟩) ?_
      refine dO rfl rfl rfl (op_load_sptr rfl rfl ta24 rfl ⟨rfl, rfl⟩) <| dO rfl rfl rfl (op_fieldAddr_ref rfl rfl fo30_4 ⟨rfl, rfl⟩) <| dO rfl rfl rfl (op_load' rfl rfl rfl ta28 rfl ⟨rfl, rfl⟩) <| dO rfl rfl rfl (op_indexAddr rfl Tryz.underlying28 sz30 (by decide) rfl rfl rfl (show _ = some (encV (.mk n2 m2 s2 c2 w2)) from rfl) ⟨rfl, rfl⟩) ?_
      refine dO rfl rfl rfl (op_load_sptr rfl rfl ta30 rfl ⟨rfl, rfl⟩) <| dOps_op rfl rfl (.cons (op_call rfl rfl rfl co46 (ih2 (.mk n2 m2 s2 c2 w2) (hvs _ (by simp)) _)) .nil) ?_
      refine dO rfl rfl rfl (op_pick rfl rfl rfl ⟨rfl, rfl⟩) <| dO rfl rfl rfl (op_assign rfl rfl ⟨rfl, rfl⟩) <| dOps_nil <| mwp_ret ?_
      exact ret_tmp (.inr rfl) Tryz.results46 rfl (.of_eq (by rw [isRF_mk 5]; rw [hfit, hris, s40t]; simp only [Bool.true_and, isRL, List.headD_cons, List.tail_cons]; congr 1; rw [Bool.eq_iff_iff]; simp_all)) (.bool _) ⟨rfl, rfl⟩
     ·
      refine dS rfl rfl <| dS rfl rfl <| dS rfl rfl <| dS rfl rfl <| dS rfl rfl <| dS rfl rfl <| dS rfl rfl <| dS rfl rfl <| dS rfl rfl <| dO rfl rfl rfl (op_pick rfl rfl rfl ⟨rfl, rfl⟩) <| dO rfl rfl rfl (op_assign rfl rfl ⟨rfl, rfl⟩) <| dOps_nil <| mwp_ret ?_
      exact ret_tmp (.inr rfl) Tryz.results46 rfl (.of_eq (by rw [isRF_mk 5]; rw [hfit, hris, s40t]; simp only [Bool.true_and, isRL, List.headD_cons, List.tail_cons]; congr 1; rw [Bool.eq_iff_iff]; simp_all)) (.bool _) ⟨rfl, rfl⟩
 ·
  refine mcalls_body Tryz.func46 rfl Tryz.ntmps46 (Nat.le_of_ble_eq_true rfl) ?_
  refine mwp_seq <| qR rfl <| qB rfl rfl rfl rfl rfl <| qB rfl rfl rfl rfl rfl <| qA rfl rfl rfl <| qN <| mwp_seq <| mwp_seq <| qR rfl <| qL rfl rfl rfl rfl ta24 rfl <| qL rfl rfl rfl rfl ta30 rfl ?_
  refine wOps_op rfl (op_call rfl rfl rfl co77 ((fits_spec 6 _ (by omega) n m s c w _).mono ?_))
  rintro _ _ ⟨rfl, rfl⟩
  refine qO rfl <| op_not rfl rfl <| qM rfl rfl rfl ?_
  refine wOps_case (fun h10 => ?_) (fun h10 => ?_)
  ·
   refine qS rfl <| qS rfl <| qS rfl <| qS rfl <| qP rfl rfl rfl rfl <| qM rfl rfl rfl <| qS rfl <| qS rfl <| qS rfl <| qS rfl <| qP rfl rfl rfl rfl <| qN <| mwp_cond_t rfl (rfl) <| mwp_seq <| qR rfl <| qA rfl rfl rfl <| qN <| mwp_ret ?_
   exact ret_tmp (.inr rfl) Tryz.results46 rfl (.of_eq (by rw [isRF_mk 6]; congr 1; symm; first | (rw [show fitsF 6 _ = false by simpa using h10]; rfl) | (rw [show risesF s = false by simpa using h16]; simp; done) | (rw [s40f]; simp; done))) (.bool _) ⟨rfl, rfl⟩
  ·
   refine qF rfl rfl rfl fo30_2 <| qL rfl rfl rfl rfl ta26 rfl ?_
   refine wOps_op rfl (op_call rfl rfl rfl co78 ((rRises_spec s _).mono ?_))
   rintro _ _ ⟨rfl, rfl⟩
   refine qO rfl <| op_not rfl rfl <| qP rfl rfl rfl rfl <| qM rfl rfl rfl ?_
   refine wOps_case (fun h16 => ?_) (fun h16 => ?_)
   ·
    refine qS rfl <| qS rfl <| qS rfl <| qS rfl <| qP rfl rfl rfl rfl <| qN <| mwp_cond_t rfl (rfl) <| mwp_seq <| qR rfl <| qA rfl rfl rfl <| qN <| mwp_ret ?_
    exact ret_tmp (.inr rfl) Tryz.results46 rfl (.of_eq (by rw [isRF_mk 6]; congr 1; symm; first | (rw [show fitsF 6 _ = false by simpa using h10]; rfl) | (rw [show risesF s = false by simpa using h16]; simp; done) | (rw [s40f]; simp; done))) (.bool _) ⟨rfl, rfl⟩
   ·
    refine qF rfl rfl rfl fo30_2 <| qL rfl rfl rfl rfl ta26 rfl <| qE rfl rfl Tryz.underlying26 rfl <| qC rfl rfl rfl rfl rfl <| qP rfl rfl rfl rfl <| qN ?_
    refine mwp_cond_split rfl (fun h21 => ?_) (fun h21 => ?_)
    ·
     have s40f := decide_eq_false (by rw [List.length_map] at h21; simp at h21; omega : ¬ s.length ≤ 40)
     refine mwp_seq <| qR rfl <| qA rfl rfl rfl <| qN <| mwp_ret ?_
     exact ret_tmp (.inr rfl) Tryz.results46 rfl (.of_eq (by rw [isRF_mk 6]; congr 1; symm; first | (rw [show fitsF 6 _ = false by simpa using h10]; rfl) | (rw [show risesF s = false by simpa using h16]; simp; done) | (rw [s40f]; simp; done))) (.bool _) ⟨rfl, rfl⟩
    ·
     have s40t := decide_eq_true (by rw [List.length_map] at h21; simp at h21; omega : s.length ≤ 40)
     have hfit : fitsF 6 (.mk n m s c w) = true := by simpa using h10
     have hris : risesF s = true := by simpa using h16
     refine mwp_skip <| mwp_seq <| mwp_seq <| qR rfl <| qF rfl rfl rfl fo24_0 <| qL rfl rfl rfl rfl ta3 rfl <| qN <| mwp_block <| mwp_seq <| qR rfl <| qC rfl rfl rfl rfl rfl <| qA rfl rfl rfl <| qN <| mwp_cond_f rfl (rfl) <| mwp_seq <| qR rfl <| qC rfl rfl rfl rfl rfl <| qA rfl rfl rfl <| qN <| mwp_cond_f rfl (rfl) <| mwp_seq <| qR rfl <| qC rfl rfl rfl rfl rfl ?_
     refine qA rfl rfl rfl <| qN <| mwp_cond_f rfl (rfl) <| mwp_seq <| qR rfl <| qC rfl rfl rfl rfl rfl <| qA rfl rfl rfl <| qN <| mwp_cond_f rfl (rfl) <| mwp_skip <| mwp_seq <| qR rfl <| qA rfl rfl rfl <| qN <| mwp_ret ?_
     exact ret_tmp (.inr rfl) Tryz.results46 rfl (.of_eq (by rw [isRF_mk 6]; rw [hfit, hris, s40t]; simp only [Bool.true_and, isRL, List.headD_cons, List.tail_cons]; rfl)) (.bool _) ⟨rfl, rfl⟩
 ·
  refine mcalls_body Tryz.func46 rfl Tryz.ntmps46 (Nat.le_of_ble_eq_true rfl) ?_
  refine mwp_seq <| qR rfl <| qB rfl rfl rfl rfl rfl <| qB rfl rfl rfl rfl rfl <| qA rfl rfl rfl <| qN <| mwp_seq <| mwp_seq <| qR rfl <| qL rfl rfl rfl rfl ta24 rfl <| qL rfl rfl rfl rfl ta30 rfl ?_
  refine wOps_op rfl (op_call rfl rfl rfl co77 ((fits_spec 7 _ (by omega) n m s c w _).mono ?_))
  rintro _ _ ⟨rfl, rfl⟩
  refine qO rfl <| op_not rfl rfl <| qM rfl rfl rfl ?_
  refine wOps_case (fun h10 => ?_) (fun h10 => ?_)
  ·
   refine qS rfl <| qS rfl <| qS rfl <| qS rfl <| qP rfl rfl rfl rfl <| qM rfl rfl rfl <| qS rfl <| qS rfl <| qS rfl <| qS rfl <| qP rfl rfl rfl rfl <| qN <| mwp_cond_t rfl (rfl) <| mwp_seq <| qR rfl <| qA rfl rfl rfl <| qN <| mwp_ret ?_
   exact ret_tmp (.inr rfl) Tryz.results46 rfl (.of_eq (by rw [isRF_mk 7]; congr 1; symm; first | (rw [show fitsF 7 _ = false by simpa using h10]; rfl) | (rw [show risesF s = false by simpa using h16]; simp; done) | (rw [s40f]; simp; done))) (.bool _) ⟨rfl, rfl⟩
  ·
   refine qF rfl rfl rfl fo30_2 <| qL rfl rfl rfl rfl ta26 rfl ?_
   refine wOps_op rfl (op_call rfl rfl rfl co78 ((rRises_spec s _).mono ?_))
   rintro _ _ ⟨rfl, rfl⟩
   refine qO rfl <| op_not rfl rfl <| qP rfl rfl rfl rfl <| qM rfl rfl rfl ?_
   refine wOps_case (fun h16 => ?_) (fun h16 => ?_)
   ·
    refine qS rfl <| qS rfl <| qS rfl <| qS rfl <| qP rfl rfl rfl rfl <| qN <| mwp_cond_t rfl (rfl) <| mwp_seq <| qR rfl <| qA rfl rfl rfl <| qN <| mwp_ret ?_
    exact ret_tmp (.inr rfl) Tryz.results46 rfl (.of_eq (by rw [isRF_mk 7]; congr 1; symm; first | (rw [show fitsF 7 _ = false by simpa using h10]; rfl) | (rw [show risesF s = false by simpa using h16]; simp; done) | (rw [s40f]; simp; done))) (.bool _) ⟨rfl, rfl⟩
   ·
    refine qF rfl rfl rfl fo30_2 <| qL rfl rfl rfl rfl ta26 rfl <| qE rfl rfl Tryz.underlying26 rfl <| qC rfl rfl rfl rfl rfl <| qP rfl rfl rfl rfl <| qN ?_
    refine mwp_cond_split rfl (fun h21 => ?_) (fun h21 => ?_)
    ·
     have s40f := decide_eq_false (by rw [List.length_map] at h21; simp at h21; omega : ¬ s.length ≤ 40)
     refine mwp_seq <| qR rfl <| qA rfl rfl rfl <| qN <| mwp_ret ?_
     exact ret_tmp (.inr rfl) Tryz.results46 rfl (.of_eq (by rw [isRF_mk 7]; congr 1; symm; first | (rw [show fitsF 7 _ = false by simpa using h10]; rfl) | (rw [show risesF s = false by simpa using h16]; simp; done) | (rw [s40f]; simp; done))) (.bool _) ⟨rfl, rfl⟩
    ·
     have s40t := decide_eq_true (by rw [List.length_map] at h21; simp at h21; omega : s.length ≤ 40)
     have hfit : fitsF 7 (.mk n m s c w) = true := by simpa using h10
     have hris : risesF s = true := by simpa using h16
     refine mwp_skip <| mwp_seq <| mwp_seq <| qR rfl <| qF rfl rfl rfl fo24_0 <| qL rfl rfl rfl rfl ta3 rfl <| qN <| mwp_block <| mwp_seq <| qR rfl <| qC rfl rfl rfl rfl rfl <| qA rfl rfl rfl <| qN <| mwp_cond_f rfl (rfl) <| mwp_seq <| qR rfl <| qC rfl rfl rfl rfl rfl <| qA rfl rfl rfl <| qN <| mwp_cond_f rfl (rfl) <| mwp_seq <| qR rfl <| qC rfl rfl rfl rfl rfl ?_
     refine qA rfl rfl rfl <| qN <| mwp_cond_t rfl (rfl) <| mwp_seq <| qR rfl <| qF rfl rfl rfl fo30_3 <| qL rfl rfl rfl rfl ta27 rfl <| qE rfl rfl Tryz.underlying27 rfl <| qC rfl rfl rfl rfl rfl <| qM rfl rfl rfl ?_
     refine wOps_case (fun h84 => ?_) (fun h84 => ?_)
     ·
      have hc0 : c = [] := by simpa using h84
      subst hc0
      refine qS rfl <| qS rfl <| qS rfl <| qS rfl <| qS rfl <| qS rfl <| qS rfl <| qS rfl <| qS rfl <| qS rfl <| qS rfl <| qS rfl <| qS rfl <| qP rfl rfl rfl rfl <| qA rfl rfl rfl <| qN <| mwp_ret ?_
      exact ret_tmp (.inr rfl) Tryz.results46 rfl (.of_eq (by rw [isRF_mk 7]; rw [hfit, hris, s40t]; simp only [Bool.true_and, isRL, List.headD_cons, List.tail_cons]; first | rfl | (congr 1; rw [Bool.eq_iff_iff]; simp_all))) (.bool _) ⟨rfl, rfl⟩
     ·
      obtain ⟨c0, rfl⟩ := one_of (by have := fits7 hfit; rw [List.length_map] at h84; simp at h84; have : c.length ≠ 0 := fun e => h84 (List.length_eq_zero_iff.1 e); omega : c.length = 1)
      refine qF rfl rfl rfl fo30_3 <| qL rfl rfl rfl rfl ta27 rfl <| qO rfl <| op_indexAddr rfl Tryz.underlying27 sz60 (by decide) rfl rfl rfl (show _ = some (encC c0) from rfl) ?_
      refine qO rfl <| op_load_sptr rfl rfl ta60 rfl ?_
      refine wOps_op rfl (op_call rfl rfl rfl co79 ((rIsClock_spec c0 _).mono ?_))
      rintro _ _ ⟨rfl, rfl⟩
      refine qM rfl rfl rfl ?_
      refine wOps_case (fun h90 => ?_) (fun h90 => ?_)
      ·
       refine qF rfl rfl rfl fo30_3 <| qL rfl rfl rfl rfl ta27 rfl <| qO rfl <| op_indexAddr rfl Tryz.underlying27 sz60 (by decide) rfl rfl rfl (show _ = some (encC c0) from rfl) ?_
       refine qO rfl <| op_load_sptr rfl rfl ta60 rfl <| qE rfl rfl Tryz.underlying60 rfl <| qC rfl rfl rfl rfl rfl <| qP rfl rfl rfl rfl <| qP rfl rfl rfl rfl <| qA rfl rfl rfl <| qN <| mwp_ret ?_
       exact ret_tmp (.inr rfl) Tryz.results46 rfl (.of_eq (by rw [isRF_mk 7]; rw [hfit, hris, s40t]; simp only [Bool.true_and, isRL, List.headD_cons, List.tail_cons]; first | rfl | (congr 1; rw [Bool.eq_iff_iff]; simp_all))) (.bool _) ⟨rfl, rfl⟩
      ·
       refine qS rfl <| qS rfl <| qS rfl <| qS rfl <| qS rfl <| qS rfl <| qP rfl rfl rfl rfl <| qP rfl rfl rfl rfl <| qA rfl rfl rfl <| qN <| mwp_ret ?_
       exact ret_tmp (.inr rfl) Tryz.results46 rfl (.of_eq (by rw [isRF_mk 7]; rw [hfit, hris, s40t]; simp only [Bool.true_and, isRL, List.headD_cons, List.tail_cons]; first | rfl | (congr 1; rw [Bool.eq_iff_iff]; simp_all))) (.bool _) ⟨rfl, rfl⟩
 ·
  obtain ⟨⟨k1, i1⟩, rfl⟩ := one_ins hd.1 (by decide)
  have ih1 := ih (.mk k1 i1) (hd.2 _ (by simp))
  refine mcalls_body Tryz.func46 rfl Tryz.ntmps46 (Nat.le_of_ble_eq_true rfl) ?_
  refine mwp_seq <| qR rfl <| qB rfl rfl rfl rfl rfl <| qB rfl rfl rfl rfl rfl <| qA rfl rfl rfl <| qN <| mwp_seq <| mwp_seq <| qR rfl <| qL rfl rfl rfl rfl ta24 rfl <| qL rfl rfl rfl rfl ta30 rfl ?_
  refine wOps_op rfl (op_call rfl rfl rfl co77 ((fits_spec 8 _ (by omega) n m s c w _).mono ?_))
  rintro _ _ ⟨rfl, rfl⟩
  refine qO rfl <| op_not rfl rfl <| qM rfl rfl rfl ?_
  refine wOps_case (fun h10 => ?_) (fun h10 => ?_)
  ·
   refine qS rfl <| qS rfl <| qS rfl <| qS rfl <| qP rfl rfl rfl rfl <| qM rfl rfl rfl <| qS rfl <| qS rfl <| qS rfl <| qS rfl <| qP rfl rfl rfl rfl <| qN <| mwp_cond_t rfl (rfl) <| mwp_seq <| qR rfl <| qA rfl rfl rfl <| qN <| mwp_ret ?_
   exact ret_tmp (.inr rfl) Tryz.results46 rfl (.of_eq (by rw [isRF_mk 8]; congr 1; symm; first | (rw [show fitsF 8 _ = false by simpa using h10]; rfl) | (rw [show risesF s = false by simpa using h16]; simp; done) | (rw [s40f]; simp; done))) (.bool _) ⟨rfl, rfl⟩
  ·
   refine qF rfl rfl rfl fo30_2 <| qL rfl rfl rfl rfl ta26 rfl ?_
   refine wOps_op rfl (op_call rfl rfl rfl co78 ((rRises_spec s _).mono ?_))
   rintro _ _ ⟨rfl, rfl⟩
   refine qO rfl <| op_not rfl rfl <| qP rfl rfl rfl rfl <| qM rfl rfl rfl ?_
   refine wOps_case (fun h16 => ?_) (fun h16 => ?_)
   ·
    refine qS rfl <| qS rfl <| qS rfl <| qS rfl <| qP rfl rfl rfl rfl <| qN <| mwp_cond_t rfl (rfl) <| mwp_seq <| qR rfl <| qA rfl rfl rfl <| qN <| mwp_ret ?_
    exact ret_tmp (.inr rfl) Tryz.results46 rfl (.of_eq (by rw [isRF_mk 8]; congr 1; symm; first | (rw [show fitsF 8 _ = false by simpa using h10]; rfl) | (rw [show risesF s = false by simpa using h16]; simp; done) | (rw [s40f]; simp; done))) (.bool _) ⟨rfl, rfl⟩
   ·
    refine qF rfl rfl rfl fo30_2 <| qL rfl rfl rfl rfl ta26 rfl <| qE rfl rfl Tryz.underlying26 rfl <| qC rfl rfl rfl rfl rfl <| qP rfl rfl rfl rfl <| qN ?_
    refine mwp_cond_split rfl (fun h21 => ?_) (fun h21 => ?_)
    ·
     have s40f := decide_eq_false (by rw [List.length_map] at h21; simp at h21; omega : ¬ s.length ≤ 40)
     refine mwp_seq <| qR rfl <| qA rfl rfl rfl <| qN <| mwp_ret ?_
     exact ret_tmp (.inr rfl) Tryz.results46 rfl (.of_eq (by rw [isRF_mk 8]; congr 1; symm; first | (rw [show fitsF 8 _ = false by simpa using h10]; rfl) | (rw [show risesF s = false by simpa using h16]; simp; done) | (rw [s40f]; simp; done))) (.bool _) ⟨rfl, rfl⟩
    ·
     have s40t := decide_eq_true (by rw [List.length_map] at h21; simp at h21; omega : s.length ≤ 40)
     have hfit : fitsF 8 (.mk n m s c w) = true := by simpa using h10
     have hris : risesF s = true := by simpa using h16
     refine mwp_skip <| mwp_seq <| mwp_seq <| qR rfl <| qF rfl rfl rfl fo24_0 <| qL rfl rfl rfl rfl ta3 rfl <| qN <| mwp_block <| mwp_seq <| qR rfl <| qC rfl rfl rfl rfl rfl <| qA rfl rfl rfl <| qN <| mwp_cond_f rfl (rfl) <| mwp_seq <| qR rfl <| qC rfl rfl rfl rfl rfl <| qA rfl rfl rfl <| qN <| mwp_cond_f rfl (rfl) <| mwp_seq <| qR rfl <| qC rfl rfl rfl rfl rfl ?_
     refine qA rfl rfl rfl <| qN <| mwp_cond_f rfl (rfl) <| mwp_seq <| qR rfl <| qC rfl rfl rfl rfl rfl <| qA rfl rfl rfl <| qN <| mwp_cond_t rfl (rfl) <| mwp_seq <| qR rfl <| qL rfl rfl rfl rfl ta24 rfl <| qL rfl rfl rfl rfl ta30 rfl ?_
     refine wOps_op rfl (op_call rfl rfl rfl co80 ((sibs_spec 8 k1 i1 [] (isRF (.mk k1 i1)) ih1 n m s c w (fits8 hfit) hv.2.2.1 hvs _).mono ?_))
     rintro _ _ ⟨rfl, rfl⟩
     refine qA rfl rfl rfl <| qN <| mwp_ret ?_
     exact ret_tmp (.inr rfl) Tryz.results46 rfl (.of_eq (by rw [isRF_mk 8]; rw [hfit, hris, s40t]; simp only [Bool.true_and, isRL, List.headD_cons, List.tail_cons]; rfl)) (.bool _) ⟨rfl, rfl⟩
theorem rValIs_spec (s : Sch) (x : Val) (hx : okV x) (S : MS) : MCalls Tryz.prog 23 [encS s, encV x] S fun v σ' => v = .bool (isF 16 s && isVF s x) ∧ σ' = S := by
 obtain ⟨k, ins⟩ := s
 obtain ⟨n, m, s, c, w⟩ := x
 refine mcalls_body Tryz.func23 rfl Tryz.ntmps23 (Nat.le_of_ble_eq_true rfl) ?_
 refine mwp_seq <| qR rfl <| qB rfl rfl rfl rfl rfl <| qB rfl rfl rfl rfl rfl <| qA rfl rfl rfl <| qN <| mwp_seq <| qR rfl <| qL rfl rfl rfl rfl ta24 rfl ?_
 refine wOps_op rfl (op_call rfl rfl rfl co36 ((rIsSchema_spec (.mk k ins) _).mono ?_))
 rintro _ _ ⟨rfl, rfl⟩
 refine qM rfl rfl rfl ?_
 refine wOps_case (fun h7 => ?_) (fun h7 => ?_)
 ·
  refine qL rfl rfl rfl rfl ta24 rfl <| qL rfl rfl rfl rfl ta30 rfl ?_
  refine wOps_op rfl (op_call rfl rfl rfl co46 ((isR_spec 16 (.mk k ins) h7 (.mk n m s c w) hx _).mono ?_))
  rintro _ _ ⟨rfl, rfl⟩
  refine qP rfl rfl rfl rfl <| qA rfl rfl rfl <| qN <| mwp_ret ?_
  exact ret_tmp (.inr rfl) Tryz.results23 rfl (.of_eq (by simp_all [isVF_eq 16 (.mk k ins)])) (.bool _) ⟨rfl, rfl⟩
 ·
  refine qS rfl <| qS rfl <| qS rfl <| qP rfl rfl rfl rfl <| qA rfl rfl rfl <| qN <| mwp_ret ?_
  exact ret_tmp (.inr rfl) Tryz.results23 rfl (.of_eq (by simp_all [isVF_eq 16 (.mk k ins)])) (.bool _) ⟨rfl, rfl⟩
end Go.Proofs.YtnfcnpdpfgcchaaGreatDoor
end
section
set_option linter.unusedVariables false
set_option linter.unusedSimpArgs false
set_option maxRecDepth 20000
set_option maxHeartbeats 400000
namespace Go.Proofs.YtnfcnpdpfgcchaaGreatDoor
open Go Go.MV
def v3 : Val := .mk 3 0 [] [] []
end Go.Proofs.YtnfcnpdpfgcchaaGreatDoor
end
section
set_option linter.unusedVariables false
set_option linter.unusedSimpArgs false
set_option maxRecDepth 20000
set_option maxHeartbeats 400000
namespace Go.Proofs.YtnfcnpdpfgcchaaGreatDoor
open Go Go.MV
theorem join_err {s : Sch} {a b : Val} (h : ¬ ((isF 16 s && isVF s a) = true ∧ (isF 16 s && isVF s b) = true)) : joinVF s a b = .error 14 := by unfold joinVF; rw [if_neg h]
theorem join_both {s : Sch} {a b : Val} (ha : (isF 16 s && isVF s a) = true) (hb : (isF 16 s && isVF s b) = true) : encJ (joinVF s a b) = encO (bothF s a b) := by
 unfold joinVF
 rw [if_pos ⟨ha, hb⟩]
 cases bothF s a b <;> rfl
theorem okV_no : okV noV := by simp [okV, okVs, noV]
theorem join_spec (s : Sch) (a b : Val) (ha : okV a) (hb : okV b) (S : MS) : MCalls Tryz.prog 7 [encS s, encV a, encV b] S fun v σ' => v = encJ (joinVF s a b) ∧ σ' = S := by
 obtain ⟨k, ins⟩ := s
 obtain ⟨n1, m1, s1, c1, w1⟩ := a
 obtain ⟨n2, m2, s2, c2, w2⟩ := b
 refine mcalls_body Tryz.func7 rfl Tryz.ntmps7 (Nat.le_of_ble_eq_true rfl) ?_
 refine mwp_seq <| qR rfl <| qB rfl rfl rfl rfl rfl <| qB rfl rfl rfl rfl rfl <| qB rfl rfl rfl rfl rfl <| qO rfl <| op_alloc' rfl zm30 rfl rfl <| qA rfl rfl rfl <| qN <| mwp_seq <| mwp_seq <| qR rfl <| qL rfl rfl rfl rfl ta24 rfl <| qL rfl rfl rfl rfl ta30 rfl ?_
 refine wOps_op rfl (op_call rfl rfl rfl co30 ((valIs_spec (.mk k ins) (.mk n1 m1 s1 c1 w1) ha _).mono ?_))
 rintro _ _ ⟨rfl, rfl⟩
 refine qO rfl <| op_not rfl rfl <| qM rfl rfl rfl ?_
 refine wOps_case (fun h12 => ?_) (fun h12 => ?_)
 ·
  refine qS rfl <| qS rfl <| qS rfl <| qS rfl <| qP rfl rfl rfl rfl <| qN <| mwp_cond_t rfl (rfl) <| mwp_seq <| qR rfl <| qO rfl <| op_build rfl Tryz.underlying30 zm30 .nil (by kernel_rfl) ?_
  refine qO rfl <| op_makeInterface rfl rfl Tryz.underlying62 (by simp) ?_
  refine qO rfl <| op_store' rfl rfl rfl rfl sz30 rfl rfl (Nat.le_of_ble_eq_true rfl) rfl <| qA rfl rfl rfl <| qN <| mwp_ret ?_
  exact ret_cell_tmp (.inr rfl) Tryz.results7 rfl rfl ta30 rfl (.agg (.cons (.refl _) (.cons (.refl _) (.cons (.nil 1) (.cons (.nil 1) (.cons (.nil 5) .nil)))))) (cl_encV _ (noV)) rfl (.refl _) (.iface _ _ (.int _ _)) ⟨by rw [join_err (fun hq => by first | (rw [hq.1] at h12; exact absurd h12 (by decide)) | (rw [hq.2] at h17; exact absurd h17 (by decide)))]; rfl, rfl⟩
 ·
  refine qL rfl rfl rfl rfl ta24 rfl <| qL rfl rfl rfl rfl ta30 rfl ?_
  refine wOps_op rfl (op_call rfl rfl rfl co30 ((valIs_spec (.mk k ins) (.mk n2 m2 s2 c2 w2) hb _).mono ?_))
  rintro _ _ ⟨rfl, rfl⟩
  refine qO rfl <| op_not rfl rfl <| qP rfl rfl rfl rfl <| qN ?_
  refine mwp_cond_split rfl (fun h17 => ?_) (fun h17 => ?_)
  ·
   refine mwp_seq <| qR rfl <| qO rfl <| op_build rfl Tryz.underlying30 zm30 .nil (by kernel_rfl) ?_
   refine qO rfl <| op_makeInterface rfl rfl Tryz.underlying62 (by simp) ?_
   refine qO rfl <| op_store' rfl rfl rfl rfl sz30 rfl rfl (Nat.le_of_ble_eq_true rfl) rfl <| qA rfl rfl rfl <| qN <| mwp_ret ?_
   exact ret_cell_tmp (.inr rfl) Tryz.results7 rfl rfl ta30 rfl (.agg (.cons (.refl _) (.cons (.refl _) (.cons (.nil 1) (.cons (.nil 1) (.cons (.nil 5) .nil)))))) (cl_encV _ (noV)) rfl (.refl _) (.iface _ _ (.int _ _)) ⟨by rw [join_err (fun hq => by first | (rw [hq.1] at h12; exact absurd h12 (by decide)) | (rw [hq.2] at h17; exact absurd h17 (by decide)))]; rfl, rfl⟩
  ·
   refine mwp_skip <| mwp_seq ?_
   have ha2 : (isF 16 (.mk k ins) && isVF (.mk k ins) (.mk n1 m1 s1 c1 w1)) = true := by simpa using h12
   have hb2 : (isF 16 (.mk k ins) && isVF (.mk k ins) (.mk n2 m2 s2 c2 w2)) = true := by simpa using h17
   have hof := both_spec 16 (.mk k ins) (by rw [Bool.and_eq_true] at ha2; exact ha2.1) (.mk n1 m1 s1 c1 w1) (.mk n2 m2 s2 c2 w2) (by rw [Bool.and_eq_true] at ha2; exact ha2.2) (by rw [Bool.and_eq_true] at hb2; exact hb2.2)
   obtain ⟨n3, m3, s3, c3, w3, h3⟩ := encO_of (bothF (.mk k ins) (.mk n1 m1 s1 c1 w1) (.mk n2 m2 s2 c2 w2))
   have hO : encO (bothF (.mk k ins) (.mk n1 m1 s1 c1 w1) (.mk n2 m2 s2 c2 w2)) = .tup [encV (.mk n3 m3 s3 c3 w3), errO (bothF (.mk k ins) (.mk n1 m1 s1 c1 w1) (.mk n2 m2 s2 c2 w2))] := by rw [encO, h3]
   rw [hO] at hof
   refine qR rfl <| qL rfl rfl rfl rfl ta24 rfl <| qL rfl rfl rfl rfl ta30 rfl <| qL rfl rfl rfl rfl ta30 rfl ?_
   refine wOps_op rfl (op_call rfl rfl rfl co31 ((hof _).mono ?_))
   rintro _ _ ⟨rfl, rfl⟩
   refine qO rfl <| op_extract rfl rfl rfl <| qO rfl <| op_extract rfl rfl rfl <| qO rfl <| op_store' rfl rfl rfl rfl sz30 rfl rfl (Nat.le_of_ble_eq_true rfl) rfl <| qA rfl rfl rfl <| qN <| mwp_ret ?_
   exact ret_cell_tmp (.inr rfl) Tryz.results7 rfl rfl ta30 rfl (.refl _) (cl_encV _ (.mk n3 m3 s3 c3 w3)) rfl (.refl _) ((cl_errO _ _)) ⟨by rw [join_both ha2 hb2, hO]; rfl, rfl⟩
end Go.Proofs.YtnfcnpdpfgcchaaGreatDoor
end
section
set_option linter.unusedVariables false
set_option linter.unusedSimpArgs false
set_option maxHeartbeats 1000000
set_option maxRecDepth 20000
namespace Go.Proofs.YtnfcnpdpfgcchaaGreatDoor
open Go Go.MV Go.RowKit Go.Extern.Stop Go.Extern
theorem tT (v : Value) (w : World) : (Extern.ReflectliteType.typeOf #[.iface 62 v]).run Tryz.prog w = .ok (.iface 105 (.agg #[.pointer (some ⟨Tryz.prog.globals.size, 62, none⟩)])) w := by kernel_rfl
theorem cT (w : World) : ((Extern.ReflectliteType.method fun t => do Extern.Rtype.noPackHeld "Comparable" t; pure (.bool (← typeInfo t).comparable)) #[.agg #[.pointer (some ⟨Tryz.prog.globals.size, 62, none⟩)]]).run Tryz.prog w = .ok (.bool true) w := by kernel_rfl
theorem mR (v : Value) (w : World) : (Go.method 312 105 v "Comparable").run Tryz.prog w = .ok (175, v) w := by kernel_rfl
theorem errComp : (Tryz.prog.info? 62).map (·.comparable) = some true := by kernel_rfl
theorem eqErr (n : Int) (w : World) : (binOp .eql 33 (.iface 62 (.int .i64 n)) (.iface 62 (.int .i64 n))).run Tryz.prog w = .ok (.bool true) w := by
  obtain ⟨i, hi, hcmp⟩ := Option.map_eq_some_iff.1 errComp
  have h : ∀ d : Nat, (Op.equalIn (d + 2) 33 (.iface 62 (.int .i64 n)) (.iface 62 (.int .i64 n))).run Tryz.prog w = .ok true w := fun d => by
    simp [Op.equalIn, run_underlying Tryz.underlying33, run_underlying Tryz.underlying62, typeInfo, hi, hcmp]
  simp only [binOp]
  simp [Op.equal, Op.maxDepth, h 9998]
theorem nilErr (v : Value) (w : World) : (binOp .eql 33 (.iface 62 v) .nilIface).run Tryz.prog w = .ok (.bool false) w := by
  have h : ∀ d : Nat, (Op.equalIn (d + 1) 33 (.iface 62 v) .nilIface).run Tryz.prog w = .ok false w := fun d => by simp [Op.equalIn, run_underlying Tryz.underlying33]
  simp only [binOp]
  simp [Op.equal, Op.maxDepth, h 9999]
theorem isSame (n : Int) (w : World) : Calls Tryz.prog 28 #[.iface 62 (.int .i64 n), .iface 62 (.int .i64 n)] w fun e w' => e = .returned (.bool true) ∧ w' = w := by
  have h8 := @run_callFunc_extern Tryz.prog 47 _ Extern.ReflectliteType.typeOf Tryz.func47 (by kernel_rfl) (by kernel_rfl) (by kernel_rfl) (by kernel_rfl)
  have h32 := @run_callFunc_extern Tryz.prog 175 _ (Extern.ReflectliteType.method fun t => do Extern.Rtype.noPackHeld "Comparable" t; pure (.bool (← typeInfo t).comparable)) Tryz.func175 (by kernel_rfl) (by kernel_rfl) (by kernel_rfl) (by kernel_rfl)
  obtain ⟨H, hT, hC⟩ : ∃ H : Value, (∀ (v : Value) (w : World), (callFunc 47 #[.iface 62 v]).run Tryz.prog w = .ok (.value (.iface 105 H)) w) ∧ (∀ w : World, (callFunc 175 #[H]).run Tryz.prog w = .ok (.value (.bool true)) w) := ⟨_, fun v w => by rw [h8, tT]; rfl, fun w => by rw [h32, cT]; rfl⟩
  clear h8 h32
  have mR := mR
  have heq := eqErr n w
  have hnil := nilErr (.int .i64 n) w
  go_enter Tryz.func28, Tryz.ntmps28
  go_wp2
  refine wp_loop_rounds 1 ?_
  rw [rounds_succ]
  go_wp2
  go_ret
  exact ⟨rfl, rfl⟩
theorem errIs_spec (n : Int) (S : MS) : MCalls Tryz.prog 28 [.iface 62 (.int .i64 n), .iface 62 (.int .i64 n)] S fun v σ' => v = .bool true ∧ σ' = S := by
  intro g w vs hrel hrd
  obtain ⟨u, us, rfl, h1, h2⟩ := hrd.uncons
  obtain ⟨u2, us2, rfl, h3, h4⟩ := h2.uncons
  obtain ⟨a, rfl, ha⟩ := h1.inv_iface
  obtain ⟨b, rfl, hb⟩ := h3.inv_iface
  have e1 := ha.inv_int
  have e2 := hb.inv_int
  have e3 : us2 = [] := List.eq_nil_of_length_eq_zero h4.1
  subst e1 e2 e3
  refine (callsIn_wide.2 (isSame n w)).mono ?_
  rintro e w' ⟨rfl, rfl⟩
  exact ⟨_, rfl, .bool true, S, g, ⟨rfl, rfl⟩, hrel, .bool _, .refl _ _⟩
end Go.Proofs.YtnfcnpdpfgcchaaGreatDoor
end
section
set_option linter.unusedVariables false
set_option linter.unusedSimpArgs false
set_option maxRecDepth 20000
set_option maxHeartbeats 400000
namespace Go.Proofs.YtnfcnpdpfgcchaaGreatDoor
open Go Go.MV
theorem joinE {s : Sch} {a b : Val} {e : Int} (h : joinVF s a b = .error e) : e = 13 ∨ e = 14 := by
 unfold joinVF at h
 split at h
 ·split at h
  ·cases h
  ·injection h with h; exact .inl h.symm
 ·injection h with h; exact .inr h.symm
theorem joinR (s : Sch) (a b : Val) : (∃ n m t c w, joinVF s a b = .ok (.mk n m t c w)) ∨ joinVF s a b = .error 13 ∨ joinVF s a b = .error 14 := by
 cases h : joinVF s a b with
 | ok v => obtain ⟨n, m, t, c, w⟩ := v; exact .inl ⟨_, _, _, _, _, rfl⟩
 | error e =>
  rcases joinE h with rfl | rfl
  ·exact .inr (.inl rfl)
  ·exact .inr (.inr rfl)
theorem exE {α : Type} (r : Except Int α) : (∃ e, r = .error e) ∨ ∃ v, r = .ok v := by
 cases r with
 | error e => exact .inl ⟨e, rfl⟩
 | ok v => exact .inr ⟨v, rfl⟩
end Go.Proofs.YtnfcnpdpfgcchaaGreatDoor
end
section
set_option linter.unusedVariables false
set_option linter.unusedSimpArgs false
namespace Go.MV
open Go Go.RowKit
section
variable {P : Program} {rd : Option Nat} {o : Oper} {env : Env} {σ : MS} {K : MV → MS → Prop}
end
end Go.MV
end
section
set_option linter.unusedVariables false
set_option linter.unusedSimpArgs false
set_option maxRecDepth 20000
set_option maxHeartbeats 400000
namespace Go.Proofs.YtnfcnpdpfgcchaaGreatDoor
open Go Go.MV
theorem join_ok_of {s : Sch} {a b v : Val} (hs : isF 16 s = true) (ha : isVF s a = true) (hb : isVF s b = true) (h : bothF s a b = some v) : joinVF s a b = .ok v := by
 unfold joinVF
 rw [if_pos ⟨by rw [hs, ha]; rfl, by rw [hs, hb]; rfl⟩, h]
theorem okV_num {a : Int} (h : 0 ≤ a ∧ a < 18446744073709551616) : okV (.mk a 0 [] [] []) := by simp [okV, okVs]; omega
end Go.Proofs.YtnfcnpdpfgcchaaGreatDoor
end
section
set_option linter.unusedVariables false
set_option linter.unusedSimpArgs false
namespace Go.Proofs.YtnfcnpdpfgcchaaGreatDoor
open Go Go.MV Go.RowKit
abbrev ltB (a b : Bs) : Prop := Op.bytesLess a b = true
def Up (l : List Bs) : Prop := l.Pairwise ltB
end Go.Proofs.YtnfcnpdpfgcchaaGreatDoor
end
section
set_option linter.unusedVariables false
set_option linter.unusedSimpArgs false
set_option maxRecDepth 20000
set_option maxHeartbeats 400000
namespace Go.Proofs.YtnfcnpdpfgcchaaGreatDoor
open Go Go.MV
theorem is_last0 : isVF (.mk 6 []) noV = true := by unfold noV; rw [isVF_mk 6]; rfl
end Go.Proofs.YtnfcnpdpfgcchaaGreatDoor
end
section
set_option linter.unusedVariables false
set_option linter.unusedSimpArgs false
namespace Go.Proofs.YtnfcnpdpfgcchaaGreatDoor
open Go Go.MV Go.RowKit
section
variable {κ : Type} {cmp : κ → κ → Int}
structure OrdK (cmp : κ → κ → Int) : Prop where
  irr : ∀ a, ¬ cmp a a < 0
  tr : ∀ a b c, cmp a b < 0 → cmp b c < 0 → cmp a c < 0
  tot : ∀ a b, ¬ cmp a b < 0 → ¬ cmp b a < 0 → a = b
open Classical in
noncomputable def look (l : List (κ × Val)) (k : κ) : Option Val := match l with
  | [] => none
  | e :: l => if e.1 = k then some e.2 else look l k
open Classical in
theorem look_cons (e : κ × Val) (l : List (κ × Val)) (k : κ) : look (e :: l) k = if e.1 = k then some e.2 else look l k := rfl
def SrtK (cmp : κ → κ → Int) (l : List (κ × Val)) : Prop := l.Pairwise fun x y => cmp x.1 y.1 < 0
def HasK (l : List (κ × Val)) (k : κ) : Prop := ∃ e ∈ l, e.1 = k
theorem look_none {l : List (κ × Val)} {k : κ} (h : ¬ HasK l k) : look l k = none := by
  induction l with
  | nil => rfl
  | cons e l ih =>
    rw [look, if_neg (fun he => h ⟨e, .head _, he⟩)]
    exact ih fun ⟨x, hx, e2⟩ => h ⟨x, .tail _ hx, e2⟩
theorem srt_cons {e : κ × Val} {l : List (κ × Val)} : SrtK cmp (e :: l) ↔ (∀ y ∈ l, cmp e.1 y.1 < 0) ∧ SrtK cmp l := List.pairwise_cons
theorem not_has (ho : OrdK cmp) {k : κ} {l : List (κ × Val)} (h : ∀ y ∈ l, cmp k y.1 < 0) : ¬ HasK l k := fun ⟨e, he, e2⟩ => ho.irr k (by have := h e he; rwa [e2] at this)
theorem mem_look (ho : OrdK cmp) {l : List (κ × Val)} (hs : SrtK cmp l) {e : κ × Val} (h : e ∈ l) : look l e.1 = some e.2 := by
  induction l with
  | nil => cases h
  | cons x l ih =>
    have hs' := srt_cons.1 hs
    rw [look]
    rcases List.mem_cons.1 h with rfl | h
    · rw [if_pos rfl]
    · rw [if_neg]
      · exact ih hs'.2 h
      · intro e2
        have := hs'.1 e h
        rw [e2] at this
        exact ho.irr _ this
def fillE (f : Val → Val → Val) (e : Ent κ) : Val := match e.2.2 with | none => e.2.1 | some w => f e.2.1 w
def mergeG (cmp : κ → κ → Int) (f : Val → Val → Val) (a b : List (κ × Val)) : List (κ × Val) := (mergeE cmp a b).map fun e => (e.1, fillE f e)
def comb (f : Val → Val → Val) : Option Val → Option Val → Option Val
  | none, y => y
  | x, none => x
  | some x, some y => some (f x y)
theorem comb_none (f : Val → Val → Val) (x : Option Val) : comb f x none = x := by cases x <;> rfl
theorem merge_has {f : Val → Val → Val} (ho : OrdK cmp) (a b : List (κ × Val)) (k : κ) : HasK (mergeG cmp f a b) k ↔ HasK a k ∨ HasK b k := by
  unfold HasK mergeG
  simp only [List.mem_map]
  constructor
  · rintro ⟨e, ⟨x, hx, rfl⟩, rfl⟩
    rcases (mergeE_mem cmp a b x hx).1 with h | h
    · exact .inl ⟨_, h, rfl⟩
    · exact .inr ⟨_, h, rfl⟩
  · intro h
    suffices hs : ∃ x ∈ mergeE cmp a b, x.1 = k by
      obtain ⟨x, hx, e⟩ := hs
      exact ⟨_, ⟨x, hx, rfl⟩, e⟩
    revert h
    induction a, b using mergeE.induct cmp with
    | case1 => rintro (⟨e, he, _⟩ | ⟨e, he, _⟩) <;> cases he
    | case2 x a ih =>
      rw [mergeE]
      rintro (⟨e, he, rfl⟩ | ⟨e, he, _⟩)
      · rcases List.mem_cons.1 he with rfl | he
        · exact ⟨_, .head _, rfl⟩
        · obtain ⟨z, hz, e2⟩ := ih (.inl ⟨e, he, rfl⟩)
          exact ⟨z, .tail _ hz, e2⟩
      · cases he
    | case3 y b ih =>
      rw [mergeE]
      rintro (⟨e, he, _⟩ | ⟨e, he, rfl⟩)
      · cases he
      · rcases List.mem_cons.1 he with rfl | he
        · exact ⟨_, .head _, rfl⟩
        · obtain ⟨z, hz, e2⟩ := ih (.inr ⟨e, he, rfl⟩)
          exact ⟨z, .tail _ hz, e2⟩
    | case4 x a y b hlt ih =>
      rw [mergeE, if_pos hlt]
      rintro (⟨e, he, rfl⟩ | h)
      · rcases List.mem_cons.1 he with rfl | he
        · exact ⟨_, .head _, rfl⟩
        · obtain ⟨z, hz, e2⟩ := ih (.inl ⟨e, he, rfl⟩)
          exact ⟨z, .tail _ hz, e2⟩
      · obtain ⟨z, hz, e2⟩ := ih (.inr h)
        exact ⟨z, .tail _ hz, e2⟩
    | case5 x a y b hlt hgt ih =>
      rw [mergeE, if_neg hlt, if_pos hgt]
      rintro (h | ⟨e, he, rfl⟩)
      · obtain ⟨z, hz, e2⟩ := ih (.inl h)
        exact ⟨z, .tail _ hz, e2⟩
      · rcases List.mem_cons.1 he with rfl | he
        · exact ⟨_, .head _, rfl⟩
        · obtain ⟨z, hz, e2⟩ := ih (.inr ⟨e, he, rfl⟩)
          exact ⟨z, .tail _ hz, e2⟩
    | case6 x a y b hlt hgt ih =>
      have exy := ho.tot _ _ hlt hgt
      rw [mergeE, if_neg hlt, if_neg hgt]
      rintro (⟨e, he, rfl⟩ | ⟨e, he, rfl⟩)
      · rcases List.mem_cons.1 he with rfl | he
        · exact ⟨_, .head _, rfl⟩
        · obtain ⟨z, hz, e2⟩ := ih (.inl ⟨e, he, rfl⟩)
          exact ⟨z, .tail _ hz, e2⟩
      · rcases List.mem_cons.1 he with rfl | he
        · exact ⟨_, .head _, exy⟩
        · obtain ⟨z, hz, e2⟩ := ih (.inr ⟨e, he, rfl⟩)
          exact ⟨z, .tail _ hz, e2⟩
theorem look_merge (ho : OrdK cmp) (f : Val → Val → Val) : ∀ a b : List (κ × Val), SrtK cmp a → SrtK cmp b → ∀ k, look (mergeG cmp f a b) k = comb f (look a k) (look b k) := by
  intro a b
  induction a, b using mergeE.induct cmp with
  | case1 => intro _ _ k; simp [mergeG, mergeE, look, comb]
  | case2 x a ih =>
    intro ha hb k
    have ha' := srt_cons.1 ha
    have : mergeG cmp f (x :: a) [] = (x.1, x.2) :: mergeG cmp f a [] := by unfold mergeG; rw [mergeE]; rfl
    rw [this, look_cons, look_cons, ih ha'.2 hb]
    rw [show look ([] : List (κ × Val)) k = none from rfl, comb_none, comb_none]
  | case3 y b ih =>
    intro ha hb k
    have hb' := srt_cons.1 hb
    have : mergeG cmp f [] (y :: b) = (y.1, y.2) :: mergeG cmp f [] b := by unfold mergeG; rw [mergeE]; rfl
    rw [this, look_cons, ih ha hb'.2]
    rw [show look ([] : List (κ × Val)) k = none from rfl, look_cons]
    rfl
  | case4 x a y b hlt ih =>
    intro ha hb k
    have ha' := srt_cons.1 ha
    have hb' := srt_cons.1 hb
    have : mergeG cmp f (x :: a) (y :: b) = (x.1, x.2) :: mergeG cmp f a (y :: b) := by unfold mergeG; rw [mergeE, if_pos hlt]; rfl
    rw [this, look_cons, ih ha'.2 hb]
    by_cases hk : x.1 = k
    · subst hk
      rw [if_pos rfl, mem_look ho ha (.head _), look_none (not_has ho (k := x.1) (l := y :: b) fun z hz => ?_)]
      · rfl
      · rcases List.mem_cons.1 hz with rfl | hz
        · exact hlt
        · exact ho.tr _ _ _ hlt (hb'.1 z hz)
    · rw [if_neg hk]
      congr 1
      rw [look_cons, if_neg hk]
  | case5 x a y b hlt hgt ih =>
    intro ha hb k
    have ha' := srt_cons.1 ha
    have hb' := srt_cons.1 hb
    have : mergeG cmp f (x :: a) (y :: b) = (y.1, y.2) :: mergeG cmp f (x :: a) b := by unfold mergeG; rw [mergeE, if_neg hlt, if_pos hgt]; rfl
    rw [this, look_cons, ih ha hb'.2]
    by_cases hk : y.1 = k
    · subst hk
      rw [if_pos rfl, mem_look ho hb (.head _), look_none (not_has ho (k := y.1) (l := x :: a) fun z hz => ?_)]
      · rfl
      · rcases List.mem_cons.1 hz with rfl | hz
        · exact hgt
        · exact ho.tr _ _ _ hgt (ha'.1 z hz)
    · rw [if_neg hk]
      congr 1
      conv => rhs; rw [look_cons, if_neg hk]
  | case6 x a y b hlt hgt ih =>
    intro ha hb k
    have ha' := srt_cons.1 ha
    have hb' := srt_cons.1 hb
    have exy := ho.tot _ _ hlt hgt
    have : mergeG cmp f (x :: a) (y :: b) = (x.1, f x.2 y.2) :: mergeG cmp f a b := by unfold mergeG; rw [mergeE, if_neg hlt, if_neg hgt]; rfl
    rw [this, look_cons, ih ha'.2 hb'.2]
    by_cases hk : x.1 = k
    · subst hk
      rw [if_pos rfl, mem_look ho ha (.head _), exy, mem_look ho hb (.head _)]
      rfl
    · rw [if_neg hk]
      conv => rhs; rw [look_cons, if_neg hk, look_cons, if_neg (exy ▸ hk)]
structure SemiL (P : Val → Prop) (f : Val → Val → Val) : Prop where
  cl : ∀ x y, P x → P y → P (f x y)
  comm : ∀ x y, P x → P y → f x y = f y x
  assoc : ∀ x y z, P x → P y → P z → f (f x y) z = f x (f y z)
  idem : ∀ x, P x → f x x = x
variable {blw : κ → κ → Prop}
def Dead (blw : κ → κ → Prop) (K : κ → Prop) (k : κ) : Prop := ∃ o, K o ∧ blw k o
open Classical in
noncomputable def topG (cmp : κ → κ → Int) (blw : κ → κ → Prop) (f : Val → Val → Val) (a b : List (κ × Val)) : List (κ × Val) := (mergeG cmp f a b).filter fun e => decide (¬ Dead blw (HasK (mergeG cmp f a b)) e.1)
theorem look_filter (q : κ → Bool) : ∀ (l : List (κ × Val)) (k : κ), look (l.filter fun e => q e.1) k = if q k = true then look l k else none
  | [], k => by simp [look]
  | e :: l, k => by
    by_cases hp : q e.1 = true
    · rw [List.filter_cons_of_pos (p := fun e : κ × Val => q e.1) hp, look_cons, look_filter q l k, look_cons]
      by_cases hk : e.1 = k
      · subst hk; simp [hp]
      · simp [hk]
    · rw [List.filter_cons_of_neg (p := fun e : κ × Val => q e.1) hp, look_filter q l k, look_cons]
      by_cases hk : e.1 = k
      · subst hk; simp [hp]
      · simp [hk]
def Or2 (a b : List (κ × Val)) (k : κ) : Prop := HasK a k ∨ HasK b k
open Classical in
theorem look_top (ho : OrdK cmp) {f : Val → Val → Val} {a b : List (κ × Val)} (ha : SrtK cmp a) (hb : SrtK cmp b) (k : κ) : look (topG cmp blw f a b) k = if Dead blw (Or2 a b) k then none else comb f (look a k) (look b k) := by
  unfold topG
  rw [look_filter (fun k => decide (¬ Dead blw (HasK (mergeG cmp f a b)) k)), look_merge ho f a b ha hb]
  have : Dead blw (HasK (mergeG cmp f a b)) k ↔ Dead blw (Or2 a b) k := by
    unfold Dead Or2
    simp only [merge_has ho]
  by_cases h : Dead blw (Or2 a b) k
  · rw [if_pos h, if_neg (by simpa using this.2 h)]
  · rw [if_neg h, if_pos (by simpa using fun h2 => h (this.1 h2))]
end
theorem cmpX_lt {a b : Bs} : cmpX a b < 0 ↔ ltB a b := by
  rw [cmpX_eq, ltB]
  split
  · rename_i h; simp [h]
  · rename_i h
    split <;> simp [h]
end Go.Proofs.YtnfcnpdpfgcchaaGreatDoor
end
section
set_option linter.unusedVariables false
set_option linter.unusedSimpArgs false
set_option linter.unusedSectionVars false
set_option maxRecDepth 20000
namespace Go.Proofs.YtnfcnpdpfgcchaaGreatDoor
open Go Go.MV
theorem eqlI {a b : Int} (h : a = b) : intCmp .eql a b = some true := by simp [intCmp, h]
section
variable {a b : List Tk} (ha : Go.MV.Up a) (hb : Go.MV.Up b) (pa : Go.MV.Pos a) (pb : Go.MV.Pos b)
include ha hb pa pb
end
section
variable {a b : List Tk} (ka : isClockF a = true) (kb : isClockF b = true) (oa : ∀ t ∈ a, okTk t) (ob : ∀ t ∈ b, okTk t) (la : a.length ≤ 15) (lb : b.length ≤ 15)
include ka kb oa ob la lb
end
section
variable {a b : List Tk} {x y : Int} (ka : isClockF a = true) (kb : isClockF b = true) (oa : ∀ t ∈ a, okTk t) (ob : ∀ t ∈ b, okTk t)
include ka kb oa ob
end
end Go.Proofs.YtnfcnpdpfgcchaaGreatDoor
end
section
set_option linter.unusedVariables false
set_option linter.unusedSimpArgs false
set_option maxRecDepth 20000
namespace Go.Proofs.YtnfcnpdpfgcchaaGreatDoor
open Go Go.MV
theorem capF_f {v : Val} (h : largeF v = false) : capF (some v) = some v := by simp [capF, h]
noncomputable def isLV (v : Val) : Bool := isVF (.mk 6 []) v
theorem lv_form {v : Val} (h : isLV v = true) : v = noV ∨ ∃ n m t, v = .mk n m [t] [] [] ∧ (n ≠ 0 ∨ m ≠ 0 ∨ t ≠ []) ∧ t.length ≤ 16 := by
  obtain ⟨n, m, s, c, w⟩ := v
  unfold isLV at h
  rw [isVF_mk 6] at h
  simp [bareF, numsK, textsK, clocksK, valuesK, Val.nv, Val.mv, Val.sv, Val.cv, Val.vv, isLastF] at h
  match s with
  | [] =>
    simp [isLastF] at h
    refine .inl ?_
    obtain ⟨⟨⟨⟨h1, h2⟩, _⟩, _⟩, h3, h4⟩ := h
    subst h1 h2 h3 h4
    rfl
  | [t] =>
    simp [isLastF] at h
    obtain ⟨⟨⟨⟨h1, h2⟩, _⟩, _⟩, h3, h4⟩ := h
    subst h1 h2
    exact .inr ⟨n, m, t, rfl, by rcases h4 with (h4 | h4) | h4 <;> simp [h4], h3⟩
  | _ :: _ :: _ => simp [isLastF] at h
theorem both_lv (a b : Val) (ha : isLV a = true) (hb : isLV b = true) : bothF (.mk 6 []) a b = some (laterF a b) := by
  rw [bothF_mk, show bothB 6 (bothL []) a b = some (laterF a b) from rfl]
  refine capF_f ?_
  have h : ∀ v, isLV v = true → largeF v = false := by
    intro v hv
    rcases lv_form hv with rfl | ⟨n, m, t, rfl, _, _⟩
    · unfold noV; rw [large_eq]; simp
    · rw [large_eq]; simp
  unfold laterF
  split
  · exact h b hb
  · exact h a ha
def LT3 (n m : Int) (t : Bs) (n2 m2 : Int) (t2 : Bs) : Prop := n < n2 ∨ (n = n2 ∧ (m < m2 ∨ (m = m2 ∧ ltB t t2)))
theorem laterC_cases (n m n2 m2 : Int) (t t2 : Bs) (s s2 : List Bs) (c c2 : List (List Tk)) (w w2 : List Val) : laterC (.mk n m (t :: s) c w) (.mk n2 m2 (t2 :: s2) c2 w2) < 0 ↔ LT3 n m t n2 m2 t2 := by
  unfold laterC LT3
  simp only [Val.nv, Val.mv, Val.sv, List.headD_cons, cmpI]
  rw [← cmpX_lt]
  repeat' split
  all_goals omega
theorem laterF_yes {n m n2 m2 : Int} {t t2 : Bs} (s s2 : List Bs) (c c2 : List (List Tk)) (w w2 : List Val) (h : LT3 n m t n2 m2 t2) : laterF (.mk n m (t :: s) c w) (.mk n2 m2 (t2 :: s2) c2 w2) = .mk n2 m2 (t2 :: s2) c2 w2 := if_pos (.inr ⟨by simp [Val.sv], (laterC_cases ..).2 h⟩)
theorem laterF_not {n m n2 m2 : Int} {t t2 : Bs} (s s2 : List Bs) (c c2 : List (List Tk)) (w w2 : List Val) (h : ¬ LT3 n m t n2 m2 t2) : laterF (.mk n m (t :: s) c w) (.mk n2 m2 (t2 :: s2) c2 w2) = .mk n m (t :: s) c w := if_neg (fun h2 => h2.elim (fun h3 => by simp [Val.sv] at h3) fun h3 => h ((laterC_cases ..).1 h3.2))
end Go.Proofs.YtnfcnpdpfgcchaaGreatDoor
end
section
set_option linter.unusedVariables false
set_option linter.unusedSimpArgs false
set_option maxRecDepth 20000
set_option maxHeartbeats 400000
namespace Go.Proofs.YtnfcnpdpfgcchaaGreatDoor
open Go Go.MV
def encSo (p : Bool × Int) : MV := .agg [.bool p.1, .int .i64 p.2]
def firstE : List (Bool × Int) → MV
 | [] => .iface0
 | p :: l => if p.1 = true then encErr p.2 else firstE l
theorem cl_firstE (n : Nat) : ∀ l : List (Bool × Int), Cl n (firstE l)
 | [] => .iface0
 | p :: l => by
  rw [firstE]
  split
  ·exact .iface _ _ (.int _ _)
  ·exact cl_firstE n l
theorem drop_cons_at {α : Type} {l : List α} {i : Nat} {x : α} (h : l[i]? = some x) : l.drop i = x :: l.drop (i + 1) := by
 obtain ⟨hlt, e⟩ := List.getElem?_eq_some_iff.1 h
 rw [List.drop_eq_getElem_cons hlt, e]
theorem first_yes {l : List (Bool × Int)} {i : Nat} {e : Int} (h : l[i]? = some (true, e)) (hd : firstE l = firstE (l.drop i)) : firstE l = encErr e := by rw [hd, drop_cons_at h, firstE, if_pos rfl]
theorem first_no_ {l : List (Bool × Int)} {i : Nat} {e : Int} (h : l[i]? = some (false, e)) (hd : firstE l = firstE (l.drop i)) : firstE l = firstE (l.drop (i + 1)) := by rw [hd, drop_cons_at h, firstE, if_neg (by simp)]
noncomputable def laterVF (a b : Val) : Bool := match joinVF (.mk 6 []) a b with | .ok j => decide (j = a) && !decide (a = b) | .error _ => false
noncomputable def nextVF (a : Val) (w : Int) (t : Bs) : Except Int Val :=
 if (!isLV a || decide (w < 0)) = true then .error 14 else if 16 < t.length then .error 13 else if IntKind.u64.wrap (a.nv + 1) = 0 then .error 15 else .ok (.mk (IntKind.u64.wrap (a.nv + 1)) (IntKind.u64.wrap w) [t] [] [])
theorem next_first (n m : Int) (s : List Bs) (c : List (List Tk)) (v : List Val) (w : Int) (t : Bs) : firstE [(!isLV (.mk n m s c v) || decide (w < 0), 14), (decide ((16 : Int) < (t.length : Int)), 13), (IntKind.u64.wrap (n + 1) == 0, 15)] = match nextVF (.mk n m s c v) w t with | .error e => encErr e | .ok _ => .iface0 := by
 unfold nextVF
 by_cases h1 : (!isLV (.mk n m s c v) || decide (w < 0)) = true
 ·rw [if_pos h1, firstE, if_pos h1]
 ·rw [if_neg h1, firstE, if_neg h1, firstE]
  by_cases h2 : 16 < t.length
  ·rw [if_pos h2, if_pos (by simp; omega)]
  ·rw [if_neg h2, if_neg (by simp; omega), firstE]
   by_cases h3 : IntKind.u64.wrap ((Val.mk n m s c v).nv + 1) = 0
   ·rw [if_pos h3, if_pos (by simpa [Val.nv] using h3)]
   ·rw [if_neg h3, if_neg (by simpa [Val.nv] using h3)]
    rfl
theorem next_ok {n m : Int} {s : List Bs} {c : List (List Tk)} {v : List Val} {w : Int} {t : Bs} {r : Val} (h : nextVF (.mk n m s c v) w t = .ok r) : r = .mk (IntKind.u64.wrap (n + 1)) (IntKind.u64.wrap w) [t] [] [] := by
 unfold nextVF at h
 split at h
 ·cases h
 ·split at h
  ·cases h
  ·split at h
   ·cases h
   ·injection h with h; exact h.symm
theorem sLast_spec (S : MS) : MCalls Tryz.prog 45 [] S fun v σ' => v = encS (.mk 6 []) ∧ σ' = S := by
 refine mcalls_body Tryz.func45 rfl Tryz.ntmps45 (Nat.le_of_ble_eq_true rfl) ?_
 refine mwp_seq <| qR rfl <| qO rfl <| op_alloc' rfl zm24 rfl rfl <| qN <| mwp_seq <| qR rfl <| qO rfl <| op_build rfl Tryz.underlying24 zm24 (.cons fo24_0 sz3 rfl rfl (Nat.le_of_ble_eq_true rfl) .nil) (by kernel_rfl) ?_
 refine qO rfl <| op_store' rfl rfl rfl rfl sz24 rfl rfl (Nat.le_of_ble_eq_true rfl) rfl <| qN <| mwp_ret ?_
 exact ret_cell (y := encS (.mk 6 [])) (.inr rfl) Tryz.results45 rfl rfl ta24 rfl (.agg (.cons (.refl _) (.cons (.nil 2) .nil))) (cl_encS _ _) ⟨rfl, rfl⟩
theorem rLast_spec (S : MS) : MCalls Tryz.prog 24 [] S fun v σ' => v = encS (.mk 6 []) ∧ σ' = S := by
 refine mcalls_body Tryz.func24 rfl Tryz.ntmps24 (Nat.le_of_ble_eq_true rfl) ?_
 refine mwp_seq <| qR rfl <| qO rfl <| op_alloc' rfl zm24 rfl rfl <| qN <| mwp_seq <| qR rfl <| qO rfl <| op_build rfl Tryz.underlying24 zm24 (.cons fo24_0 sz3 rfl rfl (Nat.le_of_ble_eq_true rfl) .nil) (by kernel_rfl) ?_
 refine qO rfl <| op_store' rfl rfl rfl rfl sz24 rfl rfl (Nat.le_of_ble_eq_true rfl) rfl <| qN <| mwp_ret ?_
 exact ret_cell (y := encS (.mk 6 [])) (.inr rfl) Tryz.results24 rfl rfl ta24 rfl (.agg (.cons (.refl _) (.cons (.nil 2) .nil))) (cl_encS _ _) ⟨rfl, rfl⟩
theorem level6_spec (S : MS) : MCalls Tryz.prog 44 [encS (.mk 6 [])] S fun v σ' => v = .int .i64 2 ∧ σ' = S := by
 refine mcalls_body Tryz.func44 rfl Tryz.ntmps44 (Nat.le_of_ble_eq_true rfl) ?_
 refine mwp_seq <| qR rfl <| qB rfl rfl rfl rfl rfl <| qA rfl rfl rfl <| qN <| mwp_seq <| mwp_block <| mwp_seq <| qR rfl <| qL rfl rfl rfl rfl ta24 rfl ?_
 refine wOps_op rfl (op_call rfl rfl rfl co33 ((Is_spec (.mk 6 []) _).mono ?_))
 rintro _ _ ⟨rfl, rfl⟩
 refine qO rfl <| op_not rfl rfl <| qA rfl rfl rfl <| qN <| mwp_cond_f rfl (by rw [show isF 16 (.mk 6 []) = true by decide]; rfl) ?_
 refine mwp_seq <| qR rfl <| qF rfl rfl rfl fo24_0 <| qL rfl rfl rfl rfl ta3 rfl <| qC rfl rfl rfl rfl rfl <| qA rfl rfl rfl <| qN <| mwp_cond_t rfl (rfl) <| mwp_seq <| qR rfl <| qA rfl rfl rfl <| qN <| mwp_ret ?_
 exact ret_tmp (.inr rfl) Tryz.results44 rfl (.of_eq (rfl)) (.int _ _) ⟨rfl, rfl⟩
theorem stampIs_spec (x : Val) (hv : okV x) (S : MS) : MCalls Tryz.prog 22 [encV x] S fun v σ' => v = .bool (isLV x) ∧ σ' = S := by
 obtain ⟨n1, m1, s1, c1, w1⟩ := x
 refine mcalls_body Tryz.func22 rfl Tryz.ntmps22 (Nat.le_of_ble_eq_true rfl) ?_
 refine mwp_seq <| qR rfl <| qB rfl rfl rfl rfl rfl <| qA rfl rfl rfl <| qN <| mwp_seq ?_
 refine mwp_draw [] [_] mo (by decide) rfl rfl rfl rfl ?_
 refine dOps_op rfl rfl (.cons (op_call rfl rfl rfl co45 (sLast_spec _)) .nil) <| dOps_op rfl rfl (.cons (op_call rfl rfl rfl co44 (level6_spec _)) .nil) <| dO rfl rfl rfl (op_cmp rfl rfl rfl (eqlI rfl) ⟨rfl, rfl⟩) <| dO rfl rfl rfl (op_move rfl rfl ⟨rfl, rfl⟩) <| dOps_op rfl rfl (.cons (op_call rfl rfl rfl co45 (sLast_spec _)) .nil) <| dO rfl rfl rfl (op_load' rfl rfl rfl ta30 rfl ⟨rfl, rfl⟩) <| dOps_op rfl rfl (.cons (op_call rfl rfl rfl co30 (valIs_spec (.mk 6 []) (.mk n1 m1 s1 c1 w1) hv _)) .nil) <| dO rfl rfl rfl (op_pick rfl rfl rfl ⟨rfl, rfl⟩) <| dO rfl rfl rfl (op_assign rfl rfl ⟨rfl, rfl⟩) <| dOps_nil <| mwp_ret ?_
 exact ret_tmp (.inr rfl) Tryz.results22 rfl (.of_eq (by unfold isLV; rw [show isF 16 (.mk 6 []) = true by decide, Bool.true_and])) (.bool _) ⟨rfl, rfl⟩
theorem first_spec (l : List (Bool × Int)) (S : MS) : MCalls Tryz.prog 43 [.lst none 2 (l.map encSo)] S fun v σ' => v = firstE l ∧ σ' = S := by
 refine mcalls_body Tryz.func43 rfl Tryz.ntmps43 (Nat.le_of_ble_eq_true rfl) ?_
 refine mwp_len (t := 0) rfl fun hlen => ?_
 rw [List.length_map] at hlen
 refine mwp_seq <| qR rfl <| qA rfl rfl rfl <| qN <| mwp_seq <| mwp_seq <| qR rfl <| qM rfl rfl rfl <| qE rfl rfl Tryz.underlying99 rfl <| qM rfl rfl rfl <| qN <| mwp_block ?_
 refine mwp_loopKJ (α := Nat) [(5, _), (6, _)] (fun i => [(7, .int .i64 (i : Int))]) (fun i => []) (fun i => i ≤ l.length ∧ firstE l = firstE (l.drop i)) (fun i => l.length - i) (0) (Nat.le_refl _) (.keep rfl (.keep rfl (.nil))) (.keep rfl (.nil)) (⟨by omega, rfl⟩) (rfl) ?_
 rintro i ⟨hi, hfd⟩
 refine mwp_seq <| qR rfl <| qC rfl rfl rfl rfl rfl <| qN <| mwp_seq ?_
 refine mwp_cond_split rfl (fun h8 => ?_) (fun h8 => ?_)
 ·
  have hlt : i < l.length := by simpa using h8
  obtain ⟨⟨sb, se⟩, hs⟩ : ∃ q_, l[i]? = some q_ := ⟨_, List.getElem?_eq_getElem hlt⟩
  refine mwp_skip <| mwp_seq <| mwp_block <| mwp_seq <| qR rfl <| qO rfl <| op_indexAddr rfl Tryz.underlying99 sz76 (by decide) rfl rfl rfl (get_map hs) ?_
  refine qO rfl <| op_load_sptr rfl rfl ta76 rfl <| qO rfl <| op_alloc' rfl zm76 rfl rfl <| qO rfl <| op_store' rfl rfl rfl rfl sz76 rfl rfl (Nat.le_of_ble_eq_true rfl) rfl <| qN <| mwp_seq <| qR rfl <| qF rfl rfl rfl fo76_0 <| qL rfl rfl rfl rfl ta4 rfl <| qN ?_
  refine mwp_cond_split rfl (fun h12 => ?_) (fun h12 => ?_)
  ·
   have hsb : sb = true := h12
   subst hsb
   refine mwp_seq <| qR rfl <| qF rfl rfl rfl fo76_1 <| qL rfl rfl rfl rfl ta62 rfl <| qO rfl <| op_makeInterface rfl rfl Tryz.underlying62 (by simp) ?_
   refine qA rfl rfl rfl <| qN <| mwp_ret ?_
   exact ret_tmp (.inr rfl) Tryz.results43 rfl (.of_eq ((first_yes hs hfd).symm)) (cl_firstE _ _) ⟨rfl, rfl⟩
  ·
   have hsb : sb = false := h12
   subst hsb
   refine mwp_skip <| qR rfl <| qO rfl <| op_arith rfl rfl rfl rfl <| qM rfl rfl rfl <| qN ?_
   refine ⟨i + 1, _, by omega, ⟨by omega, first_no_ hs hfd⟩, rfl, .nil, (.old rfl rfl (.old rfl rfl (.nil))), (.new' rfl (int_succ hlt hlen) (.int _ _) (.nil))⟩
 ·
  have hge : i = l.length := by simp at h8; omega
  refine mwp_exit <| mwp_seq <| qR rfl <| qA rfl rfl rfl <| qN <| mwp_ret ?_
  exact ret_tmp (.inr rfl) Tryz.results43 rfl (.of_eq (by rw [hfd, hge, List.drop_length]; rfl)) (cl_firstE _ _) ⟨rfl, rfl⟩
theorem stampNext_spec (a : Val) (w : Int) (t : Bs) (ha : okV a) (S : MS) : MCalls Tryz.prog 20 [encV a, .int .i64 w, encX t] S fun v σ' => v = encJ (nextVF a w t) ∧ σ' = S := by
 obtain ⟨n1, m1, s1, c1, w1⟩ := a
 refine mcalls_body Tryz.func20 rfl Tryz.ntmps20 (Nat.le_of_ble_eq_true rfl) ?_
 refine mwp_seq <| qR rfl <| qB rfl rfl rfl rfl rfl <| qO rfl <| op_alloc' rfl zm30 rfl rfl <| qA rfl rfl rfl <| qN <| mwp_seq <| mwp_seq ?_
 have hfirst := first_spec [(!isLV (.mk n1 m1 s1 c1 w1) || decide (w < 0), 14), (decide ((16 : Int) < (t.length : Int)), 13), (IntKind.u64.wrap (n1 + 1) == 0, 15)]
 rw [next_first] at hfirst
 rcases exE (nextVF (.mk n1 m1 s1 c1 w1) w t) with ⟨e, hn⟩ | ⟨v, hn⟩ <;> rw [hn] at hfirst
 ·
  refine mwp_draw [] [_] mo (by decide) rfl rfl rfl rfl ?_
  refine dO rfl rfl rfl (op_load' rfl rfl rfl ta30 rfl ⟨rfl, rfl⟩) <| dOps_op rfl rfl (.cons (op_call rfl rfl rfl co22 (stampIs_spec (.mk n1 m1 s1 c1 w1) ha _)) .nil) <| dO rfl rfl rfl (op_not rfl rfl ⟨rfl, rfl⟩) <| dO rfl rfl rfl (op_move rfl rfl ⟨rfl, rfl⟩) ?_
  refine dOps_case (fun h12 => ?_) (fun h12 => ?_)
  ·
   rw [show (!isLV (.mk n1 m1 s1 c1 w1) || decide (w < 0)) = true from by rw [h12]; rfl] at hfirst
   refine dS rfl rfl <| dS rfl rfl <| dO rfl rfl rfl (op_pick rfl rfl rfl ⟨rfl, rfl⟩) <| dO rfl rfl rfl (op_build rfl Tryz.underlying76 zm76 (.cons fo76_0 sz4 rfl rfl (Nat.le_of_ble_eq_true rfl) (.cons fo76_1 sz62 rfl rfl (Nat.le_of_ble_eq_true rfl) .nil)) (by kernel_rfl) ⟨rfl, rfl⟩) ?_
   refine dO rfl rfl rfl (op_move rfl rfl ⟨rfl, rfl⟩) <| dO rfl rfl rfl (op_len_bs rfl Tryz.underlying9 rfl ⟨rfl, rfl⟩) <| dO rfl rfl rfl (op_cmp rfl rfl rfl rfl ⟨rfl, rfl⟩) <| dO rfl rfl rfl (op_build rfl Tryz.underlying76 zm76 (.cons fo76_0 sz4 rfl rfl (Nat.le_of_ble_eq_true rfl) (.cons fo76_1 sz62 rfl rfl (Nat.le_of_ble_eq_true rfl) .nil)) (by kernel_rfl) ⟨rfl, rfl⟩) ?_
   refine dO rfl rfl rfl (op_fieldAddr_ref rfl rfl fo30_0 ⟨rfl, rfl⟩) <| dO rfl rfl rfl (op_load' rfl rfl rfl ta25 rfl ⟨rfl, rfl⟩) <| dO rfl rfl rfl (op_arith rfl rfl rfl rfl ⟨rfl, rfl⟩) <| dO rfl rfl rfl (op_cmp rfl rfl rfl rfl ⟨rfl, rfl⟩) <| dO rfl rfl rfl (op_build rfl Tryz.underlying76 zm76 (.cons fo76_0 sz4 rfl rfl (Nat.le_of_ble_eq_true rfl) (.cons fo76_1 sz62 rfl rfl (Nat.le_of_ble_eq_true rfl) .nil)) (by kernel_rfl) ⟨rfl, rfl⟩) ?_
   refine dO rfl rfl rfl (op_buildSlice rfl Tryz.underlying99 el76 rfl rfl (by decide) (by decide) rfl rfl ⟨rfl, rfl⟩) ?_
   refine dOps_op rfl rfl (.cons (op_call rfl rfl rfl co43 (hfirst _)) .nil) <| dO rfl rfl rfl (op_assign rfl rfl ⟨rfl, rfl⟩) <| dOps_nil <| mwp_seq <| qR rfl <| qM rfl rfl rfl <| qO rfl <| op_ifnil rfl Tryz.underlying33 rfl rfl (.inr ⟨rfl, rfl⟩) <| qN <| mwp_cond_t rfl (rfl) <| mwp_seq <| qR rfl <| qO rfl <| op_build rfl Tryz.underlying30 zm30 .nil (by kernel_rfl) ?_
   refine qM rfl rfl rfl <| qO rfl <| op_store' rfl rfl rfl rfl sz30 rfl rfl (Nat.le_of_ble_eq_true rfl) rfl <| qA rfl rfl rfl <| qN <| mwp_ret ?_
   exact ret_cell_tmp (.inr rfl) Tryz.results20 rfl rfl ta30 rfl (.agg (.cons (.refl _) (.cons (.refl _) (.cons (.nil 1) (.cons (.nil 1) (.cons (.nil 5) .nil)))))) (cl_encV _ (noV)) rfl (.refl _) (.iface _ _ (.int _ _)) ⟨by rw [hn]; rfl, rfl⟩
  ·
   rw [show (!isLV (.mk n1 m1 s1 c1 w1) || decide (w < 0)) = decide (w < 0) from by rw [h12]; rfl] at hfirst
   refine dO rfl rfl rfl (op_move rfl rfl ⟨rfl, rfl⟩) <| dO rfl rfl rfl (op_cmp rfl rfl rfl rfl ⟨rfl, rfl⟩) <| dO rfl rfl rfl (op_pick rfl rfl rfl ⟨rfl, rfl⟩) <| dO rfl rfl rfl (op_build rfl Tryz.underlying76 zm76 (.cons fo76_0 sz4 rfl rfl (Nat.le_of_ble_eq_true rfl) (.cons fo76_1 sz62 rfl rfl (Nat.le_of_ble_eq_true rfl) .nil)) (by kernel_rfl) ⟨rfl, rfl⟩) ?_
   refine dO rfl rfl rfl (op_move rfl rfl ⟨rfl, rfl⟩) <| dO rfl rfl rfl (op_len_bs rfl Tryz.underlying9 rfl ⟨rfl, rfl⟩) <| dO rfl rfl rfl (op_cmp rfl rfl rfl rfl ⟨rfl, rfl⟩) <| dO rfl rfl rfl (op_build rfl Tryz.underlying76 zm76 (.cons fo76_0 sz4 rfl rfl (Nat.le_of_ble_eq_true rfl) (.cons fo76_1 sz62 rfl rfl (Nat.le_of_ble_eq_true rfl) .nil)) (by kernel_rfl) ⟨rfl, rfl⟩) ?_
   refine dO rfl rfl rfl (op_fieldAddr_ref rfl rfl fo30_0 ⟨rfl, rfl⟩) <| dO rfl rfl rfl (op_load' rfl rfl rfl ta25 rfl ⟨rfl, rfl⟩) <| dO rfl rfl rfl (op_arith rfl rfl rfl rfl ⟨rfl, rfl⟩) <| dO rfl rfl rfl (op_cmp rfl rfl rfl rfl ⟨rfl, rfl⟩) <| dO rfl rfl rfl (op_build rfl Tryz.underlying76 zm76 (.cons fo76_0 sz4 rfl rfl (Nat.le_of_ble_eq_true rfl) (.cons fo76_1 sz62 rfl rfl (Nat.le_of_ble_eq_true rfl) .nil)) (by kernel_rfl) ⟨rfl, rfl⟩) ?_
   refine dO rfl rfl rfl (op_buildSlice rfl Tryz.underlying99 el76 rfl rfl (by decide) (by decide) rfl rfl ⟨rfl, rfl⟩) ?_
   refine dOps_op rfl rfl (.cons (op_call rfl rfl rfl co43 (hfirst _)) .nil) <| dO rfl rfl rfl (op_assign rfl rfl ⟨rfl, rfl⟩) <| dOps_nil <| mwp_seq <| qR rfl <| qM rfl rfl rfl <| qO rfl <| op_ifnil rfl Tryz.underlying33 rfl rfl (.inr ⟨rfl, rfl⟩) <| qN <| mwp_cond_t rfl (rfl) <| mwp_seq <| qR rfl <| qO rfl <| op_build rfl Tryz.underlying30 zm30 .nil (by kernel_rfl) ?_
   refine qM rfl rfl rfl <| qO rfl <| op_store' rfl rfl rfl rfl sz30 rfl rfl (Nat.le_of_ble_eq_true rfl) rfl <| qA rfl rfl rfl <| qN <| mwp_ret ?_
   exact ret_cell_tmp (.inr rfl) Tryz.results20 rfl rfl ta30 rfl (.agg (.cons (.refl _) (.cons (.refl _) (.cons (.nil 1) (.cons (.nil 1) (.cons (.nil 5) .nil)))))) (cl_encV _ (noV)) rfl (.refl _) (.iface _ _ (.int _ _)) ⟨by rw [hn]; rfl, rfl⟩
 ·
  refine mwp_draw [] [_] mo (by decide) rfl rfl rfl rfl ?_
  refine dO rfl rfl rfl (op_load' rfl rfl rfl ta30 rfl ⟨rfl, rfl⟩) <| dOps_op rfl rfl (.cons (op_call rfl rfl rfl co22 (stampIs_spec (.mk n1 m1 s1 c1 w1) ha _)) .nil) <| dO rfl rfl rfl (op_not rfl rfl ⟨rfl, rfl⟩) <| dO rfl rfl rfl (op_move rfl rfl ⟨rfl, rfl⟩) ?_
  refine dOps_case (fun h12 => ?_) (fun h12 => ?_)
  ·
   rw [show (!isLV (.mk n1 m1 s1 c1 w1) || decide (w < 0)) = true from by rw [h12]; rfl] at hfirst
   refine dS rfl rfl <| dS rfl rfl <| dO rfl rfl rfl (op_pick rfl rfl rfl ⟨rfl, rfl⟩) <| dO rfl rfl rfl (op_build rfl Tryz.underlying76 zm76 (.cons fo76_0 sz4 rfl rfl (Nat.le_of_ble_eq_true rfl) (.cons fo76_1 sz62 rfl rfl (Nat.le_of_ble_eq_true rfl) .nil)) (by kernel_rfl) ⟨rfl, rfl⟩) ?_
   refine dO rfl rfl rfl (op_move rfl rfl ⟨rfl, rfl⟩) <| dO rfl rfl rfl (op_len_bs rfl Tryz.underlying9 rfl ⟨rfl, rfl⟩) <| dO rfl rfl rfl (op_cmp rfl rfl rfl rfl ⟨rfl, rfl⟩) <| dO rfl rfl rfl (op_build rfl Tryz.underlying76 zm76 (.cons fo76_0 sz4 rfl rfl (Nat.le_of_ble_eq_true rfl) (.cons fo76_1 sz62 rfl rfl (Nat.le_of_ble_eq_true rfl) .nil)) (by kernel_rfl) ⟨rfl, rfl⟩) ?_
   refine dO rfl rfl rfl (op_fieldAddr_ref rfl rfl fo30_0 ⟨rfl, rfl⟩) <| dO rfl rfl rfl (op_load' rfl rfl rfl ta25 rfl ⟨rfl, rfl⟩) <| dO rfl rfl rfl (op_arith rfl rfl rfl rfl ⟨rfl, rfl⟩) <| dO rfl rfl rfl (op_cmp rfl rfl rfl rfl ⟨rfl, rfl⟩) <| dO rfl rfl rfl (op_build rfl Tryz.underlying76 zm76 (.cons fo76_0 sz4 rfl rfl (Nat.le_of_ble_eq_true rfl) (.cons fo76_1 sz62 rfl rfl (Nat.le_of_ble_eq_true rfl) .nil)) (by kernel_rfl) ⟨rfl, rfl⟩) ?_
   refine dO rfl rfl rfl (op_buildSlice rfl Tryz.underlying99 el76 rfl rfl (by decide) (by decide) rfl rfl ⟨rfl, rfl⟩) ?_
   refine dOps_op rfl rfl (.cons (op_call rfl rfl rfl co43 (hfirst _)) .nil) <| dO rfl rfl rfl (op_assign rfl rfl ⟨rfl, rfl⟩) <| dOps_nil <| mwp_seq <| qR rfl <| qM rfl rfl rfl <| qO rfl <| op_if0 rfl Tryz.underlying33 rfl rfl (.inr ⟨rfl, rfl⟩) <| qN <| mwp_cond_f rfl (rfl) <| mwp_skip <| mwp_seq <| qR rfl <| qF rfl rfl rfl fo30_0 <| qL rfl rfl rfl rfl ta25 rfl <| qO rfl <| op_arith rfl rfl rfl rfl <| qM rfl rfl rfl <| qO rfl <| op_convInt rfl Tryz.underlying3 Tryz.underlying25 rfl rfl <| qM rfl rfl rfl <| qO rfl <| op_buildSlice rfl Tryz.underlying26 el9 rfl rfl (by decide) (by decide) rfl rfl ?_
   refine qO rfl <| op_build rfl Tryz.underlying30 zm30 (.cons fo30_0 sz25 rfl rfl (Nat.le_of_ble_eq_true rfl) (.cons fo30_1 sz25 rfl rfl (Nat.le_of_ble_eq_true rfl) (.cons fo30_2 sz26 rfl rfl (Nat.le_of_ble_eq_true rfl) .nil))) (by kernel_rfl) ?_
   refine qO rfl <| op_store' rfl rfl rfl rfl sz30 rfl rfl (Nat.le_of_ble_eq_true rfl) rfl <| qA rfl rfl rfl <| qN <| mwp_ret ?_
   exact ret_cell_tmp (.inr rfl) Tryz.results20 rfl rfl ta30 rfl (.agg (.cons (.refl _) (.cons (.refl _) (.cons (.refl _) (.cons (.nil 1) (.cons (.nil 5) .nil)))))) (cl_encV _ (.mk (IntKind.u64.wrap (n1 + 1)) (IntKind.u64.wrap w) [t] [] [])) rfl (.refl _) (.iface0) ⟨by rw [hn, next_ok hn]; rfl, rfl⟩
  ·
   rw [show (!isLV (.mk n1 m1 s1 c1 w1) || decide (w < 0)) = decide (w < 0) from by rw [h12]; rfl] at hfirst
   refine dO rfl rfl rfl (op_move rfl rfl ⟨rfl, rfl⟩) <| dO rfl rfl rfl (op_cmp rfl rfl rfl rfl ⟨rfl, rfl⟩) <| dO rfl rfl rfl (op_pick rfl rfl rfl ⟨rfl, rfl⟩) <| dO rfl rfl rfl (op_build rfl Tryz.underlying76 zm76 (.cons fo76_0 sz4 rfl rfl (Nat.le_of_ble_eq_true rfl) (.cons fo76_1 sz62 rfl rfl (Nat.le_of_ble_eq_true rfl) .nil)) (by kernel_rfl) ⟨rfl, rfl⟩) ?_
   refine dO rfl rfl rfl (op_move rfl rfl ⟨rfl, rfl⟩) <| dO rfl rfl rfl (op_len_bs rfl Tryz.underlying9 rfl ⟨rfl, rfl⟩) <| dO rfl rfl rfl (op_cmp rfl rfl rfl rfl ⟨rfl, rfl⟩) <| dO rfl rfl rfl (op_build rfl Tryz.underlying76 zm76 (.cons fo76_0 sz4 rfl rfl (Nat.le_of_ble_eq_true rfl) (.cons fo76_1 sz62 rfl rfl (Nat.le_of_ble_eq_true rfl) .nil)) (by kernel_rfl) ⟨rfl, rfl⟩) ?_
   refine dO rfl rfl rfl (op_fieldAddr_ref rfl rfl fo30_0 ⟨rfl, rfl⟩) <| dO rfl rfl rfl (op_load' rfl rfl rfl ta25 rfl ⟨rfl, rfl⟩) <| dO rfl rfl rfl (op_arith rfl rfl rfl rfl ⟨rfl, rfl⟩) <| dO rfl rfl rfl (op_cmp rfl rfl rfl rfl ⟨rfl, rfl⟩) <| dO rfl rfl rfl (op_build rfl Tryz.underlying76 zm76 (.cons fo76_0 sz4 rfl rfl (Nat.le_of_ble_eq_true rfl) (.cons fo76_1 sz62 rfl rfl (Nat.le_of_ble_eq_true rfl) .nil)) (by kernel_rfl) ⟨rfl, rfl⟩) ?_
   refine dO rfl rfl rfl (op_buildSlice rfl Tryz.underlying99 el76 rfl rfl (by decide) (by decide) rfl rfl ⟨rfl, rfl⟩) ?_
   refine dOps_op rfl rfl (.cons (op_call rfl rfl rfl co43 (hfirst _)) .nil) <| dO rfl rfl rfl (op_assign rfl rfl ⟨rfl, rfl⟩) <| dOps_nil <| mwp_seq <| qR rfl <| qM rfl rfl rfl <| qO rfl <| op_if0 rfl Tryz.underlying33 rfl rfl (.inr ⟨rfl, rfl⟩) <| qN <| mwp_cond_f rfl (rfl) <| mwp_skip <| mwp_seq <| qR rfl <| qF rfl rfl rfl fo30_0 <| qL rfl rfl rfl rfl ta25 rfl <| qO rfl <| op_arith rfl rfl rfl rfl <| qM rfl rfl rfl <| qO rfl <| op_convInt rfl Tryz.underlying3 Tryz.underlying25 rfl rfl <| qM rfl rfl rfl <| qO rfl <| op_buildSlice rfl Tryz.underlying26 el9 rfl rfl (by decide) (by decide) rfl rfl ?_
   refine qO rfl <| op_build rfl Tryz.underlying30 zm30 (.cons fo30_0 sz25 rfl rfl (Nat.le_of_ble_eq_true rfl) (.cons fo30_1 sz25 rfl rfl (Nat.le_of_ble_eq_true rfl) (.cons fo30_2 sz26 rfl rfl (Nat.le_of_ble_eq_true rfl) .nil))) (by kernel_rfl) ?_
   refine qO rfl <| op_store' rfl rfl rfl rfl sz30 rfl rfl (Nat.le_of_ble_eq_true rfl) rfl <| qA rfl rfl rfl <| qN <| mwp_ret ?_
   exact ret_cell_tmp (.inr rfl) Tryz.results20 rfl rfl ta30 rfl (.agg (.cons (.refl _) (.cons (.refl _) (.cons (.refl _) (.cons (.nil 1) (.cons (.nil 5) .nil)))))) (cl_encV _ (.mk (IntKind.u64.wrap (n1 + 1)) (IntKind.u64.wrap w) [t] [] [])) rfl (.refl _) (.iface0) ⟨by rw [hn, next_ok hn]; rfl, rfl⟩
end Go.Proofs.YtnfcnpdpfgcchaaGreatDoor
end
