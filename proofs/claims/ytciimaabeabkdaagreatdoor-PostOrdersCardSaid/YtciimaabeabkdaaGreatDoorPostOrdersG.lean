/-
  Texts on which the proof of PostOrders leans: part 7.
-/
import Derived.Test.YtciimaabeabkdaaGreatDoorPostOrdersF
set_option linter.unusedVariables false
set_option linter.unusedSimpArgs false
set_option maxRecDepth 20000
set_option maxHeartbeats 8000000
namespace Go.Proofs.YtciimaabeabkdaaGreatDoor
open Go Go.MV Go.RowKit
def po (t : List Tbl) (r n : Nat) : MObj := .cells [.lst none 4 (t.map encTb), .ow r 1 n]
def qo (Q : List Bs) : MObj := .orow 9 1 Q.length (Q.map encX)
theorem po_cl {t : List Tbl} {r n d : Nat} (h : r < d) : (po t r n).cl d := fun x hx => by
 simp only [List.mem_cons, List.not_mem_nil, or_false] at hx
 rcases hx with rfl | rfl
 ·exact cl_tbs _ _
 ·exact .ow _ _ _ h
theorem qo_cl {Q : List Bs} {d : Nat} : (qo Q).cl d := fun x hx => by
 obtain ⟨y, _, rfl⟩ := List.mem_map.1 hx
 exact .str _
structure PoAt (S : MS) (t : List Tbl) (pid r : Nat) (Q : List Bs) : Prop where
 ne : pid ≠ r
 ob : S[pid]? = some (po t r Q.length)
 row : S[r]? = some (qo Q)
theorem PoAt.pl {S : MS} {t : List Tbl} {pid r : Nat} {Q : List Bs} (h : PoAt S t pid r Q) : pid < S.length := (zD.1 h.ob).1
theorem PoAt.rl {S : MS} {t : List Tbl} {pid r : Nat} {Q : List Bs} (h : PoAt S t pid r Q) : r < S.length := (zD.1 h.row).1
theorem PoAt.sl {S : MS} {t : List Tbl} {pid r : Nat} {Q : List Bs} (h : PoAt S t pid r Q) (L : MS) : PoAt (S ++ L) t pid r Q := ⟨h.ne, zK1 h.ob, zK1 h.row⟩
def cutQ (Q : List Bs) (i : Nat) : List Bs := Q.take i ++ Q.drop (i + 1)
theorem cutQ_len {Q : List Bs} {i : Nat} (h : i < Q.length) : (cutQ Q i).length = Q.length - 1 := by simp [cutQ]; omega
def tkS (S : MS) (t : List Tbl) (pid i : Nat) (Q : List Bs) : MS := S.set pid (po t (S.length + 1) (cutQ Q i).length) ++ [.gone, qo (cutQ Q i)]
theorem cls_tk {S : MS} {t : List Tbl} {pid r i : Nat} {Q : List Bs} (hcl : ClS S) (h : PoAt S t pid r Q) : ClS (tkS S t pid i Q) := by
 have h1 : ClS (S ++ [.gone, qo (cutQ Q i)]) := hcl.app fun o ho => by
  simp only [List.mem_cons, List.not_mem_nil, or_false] at ho
  rcases ho with rfl | rfl
  ·trivial
  ·exact qo_cl
 have h2 := h1.set (id := pid) (o := po t (S.length + 1) (cutQ Q i).length) (po_cl (by simp))
 rw [List.set_append_left _ _ h.pl] at h2
 exact h2
theorem bq_at {P : Program} {fn : Func} {S : MS} {R : MV → MS → Prop} {env : Env} {e : Exit} {σ : MS} (T : MS) (h : σ = T) (k : BodyQ P fn S R e env T) : BodyQ P fn S R e env σ := h ▸ k
theorem loadX {Q : List Bs} {i : Nat} {x : Bs} (h : Q[i]? = some x) : loadMV none (Q.map encX) (i * 1) = some (.str (bs x)) := by
 have : (Q.map encX)[i]? = some (.str (bs x)) := by rw [zH0, h]; rfl
 simp [loadMV, this]
theorem qhas_spec (S : MS) (t : List Tbl) (pid r : Nat) (Q : List Bs) (h : PoAt S t pid r Q) (i : Int) (hl : Q.length < 9223372036854775808) : MCalls Tryz.prog 92 [.ref pid 1, .int .i64 i] S fun v σ' => v = .bool (decide (0 ≤ i) && decide (i < Q.length)) ∧ σ' = S := by
 refine zM Tryz.func92 V Tryz.ntmps92 (zA V) ?_
 refine zW0 fun _ hcl => ?_
 rw [List.append_nil] at hcl
 refine zB <| qR V <| qA V V V <| qN <| zB <| qR V <| qM V V V <| qC V V V V V <| qM V V V ?_
 refine zZ (fun h7 => ?_) (fun h7 => ?_)
 ·
  refine qM V V V <| qM V V V <| qO V <| zD0 V V V <| qF V V V zZ3 <| qO V <| zP1 V V h.ob ta23 V <| qO V <| op_len_ow V zB0 V (zK1 h.row) <| qC V V V V V <| qP V V V V <| qA V V V <| qN <| zI ?_
  exact zG4 (.inr V) Tryz.results92 V (.refl _) (.bool _) (by simp) hcl ⟨by congr 1; (first | (simp_all; done) | (simp_all; omega)), rfl⟩
 ·
  refine qT V V V V <| qS V <| qS V <| qS V <| qP V V V V <| qA V V V <| qN <| zI ?_
  exact zG4 (.inr V) Tryz.results92 V (.refl _) (.bool _) (by simp) hcl ⟨by congr 1; (first | (simp_all; done) | (simp_all; omega)), rfl⟩
theorem qlen_spec (S : MS) (t : List Tbl) (pid r : Nat) (Q : List Bs) (h : PoAt S t pid r Q) : MCalls Tryz.prog 39 [.ref pid 0] S fun v σ' => v = .int .i64 (Q.length : Int) ∧ σ' = S := by
 refine zM Tryz.func39 V Tryz.ntmps39 (zA V) ?_
 refine zW0 fun _ hcl => ?_
 rw [List.append_nil] at hcl
 refine zB <| qR V <| qA V V V <| qN <| zB <| qR V <| qM V V V <| qO V <| zD0 V V V <| qF V V V zO3 <| qF V V V zZ3 <| qO V <| zP1 V V h.ob ta23 V <| qO V <| op_len_ow V zB0 V (zK1 h.row) <| qA V V V <| qN <| zI ?_
 exact zG4 (.inr V) Tryz.results39 V (.refl _) (.int _ _) (by simp) hcl Vv
theorem qtake_spec (S : MS) (t : List Tbl) (pid r : Nat) (Q : List Bs) (h : PoAt S t pid r Q) (i : Nat) (x : Bs) (hi : Q[i]? = some x) (hl : Q.length ≤ 1000000) : MCalls Tryz.prog 91 [.ref pid 1, .int .i64 (i : Int)] S fun v σ' => v = .str (bs x) ∧ σ' = tkS S t pid i Q := by
 refine zM Tryz.func91 V Tryz.ntmps91 (zA V) ?_
 refine zW0 fun _ hcl => ?_
 rw [List.append_nil] at hcl
 have hil := (zD.1 hi).1
 have hcn := cutQ_len hil
 have hqo : qo (cutQ Q i) = .orow 9 1 (Q.length - 1) ((Q.take i ++ Q.drop (i + 1)).map encX) := by unfold qo; rw [hcn]; rfl
 have hck : MCalls Tryz.prog 155 [.ow r 1 Q.length] (S ++ []) fun v σ' => v = .ow S.length 1 Q.length ∧ σ' = S ++ [qo Q] := by
  rw [List.append_nil]
  exact cloneO_spec S r Q.length Q h.row rfl (by omega) hl
 refine zB <| qR V <| qA V V V <| qN <| zB <| qR V <| qM V V V <| qO V <| zD0 V V V <| qF V V V zZ3 <| qO V <| zP1 V V h.ob ta23 V <| qM V V V <| qO V <| op_indexAddr_ow V zB0 sz9 V V V hil (zK1 h.row) <| qO V <| zD6 V V (zK1 h.row) ta9 (loadX hi) <| qA V V V <| qN <| zB <| qR V <| qM V V V <| qM V V V ?_
 refine qO V <| zD0 V V V <| qF V V V zZ3 <| qO V <| zP1 V V h.ob ta23 V ?_
 refine qX V V V V co155 (hck) ?_
 refine qM V V V <| qM V V V <| qO V <| zT0 V V V (wadd (a := i) (b := 1) V (by omega)) ?_
 refine qX V V V V co154 (deleteO_spec (S ++ [qo Q]) S.length Q.length i Q (by simp [qo]) V hil hl) ?_
 refine zU6 (S ++ [.gone, qo (cutQ Q i)]) (by rw [hqo]; simp) ?_
 refine qO V <| zD0 V V V <| qF V V V zZ3 <| qO V <| zK6 V V V h.ob sz23 V V (zA V) <| qN <| zB <| qR V <| qM V V V <| qA V V V <| qN <| zI <| bq_at (tkS S t pid i Q ++ []) (by rw [List.append_nil]; unfold tkS; rw [hcn]; simp [setMany, po]; rfl) ?_
 exact zG4 (.inr V) Tryz.results91 V (.refl _) (.str _) (by simp [tkS]) (cls_tk hcl h) Vv
def addS (S : MS) (t : List Tbl) (pid r : Nat) (Q : List Bs) : MS := (S.set r (qo Q)).set pid (po t r Q.length)
theorem addS_len {S : MS} {t : List Tbl} {pid r : Nat} {Q : List Bs} : (addS S t pid r Q).length = S.length := by simp [addS]
theorem cls_add {S : MS} {t : List Tbl} {pid r : Nat} {Q Q' : List Bs} (hcl : ClS S) (h : PoAt S t pid r Q) : ClS (addS S t pid r Q') := (hcl.set qo_cl).set (po_cl (by simpa using h.rl))
theorem PoAt.add {S : MS} {t : List Tbl} {pid r : Nat} {Q : List Bs} (h : PoAt S t pid r Q) (Q' : List Bs) : PoAt (addS S t pid r Q') t pid r Q' := ⟨h.ne, by unfold addS; rw [List.getElem?_set_self (by simpa using h.pl)], by unfold addS; rw [List.getElem?_set_ne h.ne, List.getElem?_set_self h.rl]⟩
theorem PoAt.tk {S : MS} {t : List Tbl} {pid r i : Nat} {Q : List Bs} (h : PoAt S t pid r Q) : PoAt (tkS S t pid i Q) t pid (S.length + 1) (cutQ Q i) := by
 refine ⟨by have := h.pl; omega, ?_, ?_⟩
 ·unfold tkS
  rw [List.getElem?_append_left (by simpa using h.pl), List.getElem?_set_self h.pl]
 ·unfold tkS
  rw [List.getElem?_append_right (by simp)]
  simp
theorem put_spec (S : MS) (t : List Tbl) (pid r : Nat) (Q : List Bs) (h : PoAt S t pid r Q) (k f to i c : Int) (key : Bs) (x : Val) (es : List Ety) (su : List Su) (mm : List Mm) (cp : List Cp) (b : Bs) (hb : b ≠ []) (hl : Q.length < 400) (hB : ∀ S : MS, MCalls Tryz.prog 15 [.lst none 4 (t.map encTb), encLt k f to i c key x es su mm cp] S fun v σ' => v = .str (bs b) ∧ σ' = S) : MCalls Tryz.prog 37 [.ref pid 0, encLt k f to i c key x es su mm cp] S fun v σ' => v = .iface0 ∧ σ' = addS S t pid r (Q ++ [b]) := by
 obtain ⟨n, m, s, q, w⟩ := x
 have hob2 : (S.set r (qo (Q ++ [b])))[pid]? = some (po t r Q.length) := by rw [List.getElem?_set_ne h.ne.symm]; exact h.ob
 refine zM Tryz.func37 V Tryz.ntmps37 (zA V) ?_
 refine zW0 fun _ hcl => ?_
 rw [List.append_nil] at hcl
 refine zB <| qR V <| qB V V V V V <| qA V V V <| qN <| zB ?_
 refine zX0 [] [_] mo (by decide) V V V V ?_
 refine dO V V V (zY V V Vv) <| dO V V V (zD0 V V V Vv) <| dO V V V (zE V V fo165_0 Vv) <| dO V V V (zP1 V V h.ob ta39 V Vv) <| dO V V V (zO0 V V V ta35 V Vv) <| zU V V (.cons (zD1 V V V co15 (hB _)) .nil) <| dO V V V (zF1 V V Vv) <| zP0 <| zB <| zB <| qR V <| qM V V V <| qO V <| zS2 V V V V <| qN <| zL V (by simp [hb]) ?_
 refine zQ <| zB <| zB <| qR V <| qM V V V <| qO V <| zD0 V V V <| qF V V V zO3 <| qF V V V zZ3 <| qO V <| zP1 V V h.ob ta23 V <| qO V <| op_len_ow V zB0 V (zK1 h.row) <| qC V V V V (show intCmp .geq ((Q.length : Nat) : Int) 400 = some false by simp [intCmp]; omega) ?_
 refine qN <| zL V (V) <| zQ <| zB <| qR V <| qM V V V <| qM V V V <| qO V <| zD0 V V V <| qF V V V zO3 <| qF V V V zZ3 <| qO V <| zP1 V V h.ob ta23 V <| qM V V V <| qO V <| zJ1 V zB0 el9 V V (by decide) (by decide) V V ?_
 refine qO V <| op_append_ow V zB0 el9 V V (zK1 h.row) (by simp; omega) (by simp; omega) ?_
 refine zU6 ((S.set r (qo (Q ++ [b]))) ++ [MObj.cells (encLt k f to i c key (.mk n m s q w) es su mm cp).cells]) (by rw [List.set_append_left _ _ h.rl]; simp [qo, flat]; rfl) ?_
 refine qO V <| zD0 V V V <| qF V V V zO3 <| qF V V V zZ3 <| qO V <| zK6 V V V hob2 sz23 V V (zA V) <| qN <| zB <| qR V <| qA V V V <| qN <| zI <| bq_at (addS S t pid r (Q ++ [b]) ++ [MObj.cells (encLt k f to i c key (.mk n m s q w) es su mm cp).cells]) (by unfold addS; simp [setMany, po]; rfl) ?_
 exact zG4 (.inr V) Tryz.results37 V (.refl _) .iface0 (by simp [addS_len]) (cls_add hcl h) Vv
theorem putF_spec (S : MS) (t : List Tbl) (pid r : Nat) (Q : List Bs) (h : PoAt S t pid r Q) (k f to i c : Int) (key : Bs) (x : Val) (es : List Ety) (su : List Su) (mm : List Mm) (cp : List Cp) (b b0 : Bs) (hb : b ≠ []) (hl : Q.length = 400) (hb0 : Q[0]? = some b0) (hB : ∀ S : MS, MCalls Tryz.prog 15 [.lst none 4 (t.map encTb), encLt k f to i c key x es su mm cp] S fun v σ' => v = .str (bs b) ∧ σ' = S) : MCalls Tryz.prog 37 [.ref pid 0, encLt k f to i c key x es su mm cp] S fun v σ' => v = .iface0 ∧ σ' = addS (tkS (S ++ [MObj.cells (encLt k f to i c key x es su mm cp).cells]) t pid 0 Q) t pid ((S ++ [MObj.cells (encLt k f to i c key x es su mm cp).cells]).length + 1) (cutQ Q 0 ++ [b]) := by
 have hql : (cutQ Q 0).length = 399 := by rw [cutQ_len (by omega), hl]
 obtain ⟨n, m, s, q, w⟩ := x
 refine zM Tryz.func37 V Tryz.ntmps37 (zA V) ?_
 refine zW0 fun _ hcl => ?_
 rw [List.append_nil] at hcl
 have hx := h.sl [MObj.cells (encLt k f to i c key (.mk n m s q w) es su mm cp).cells]
 have h2 := hx.tk (i := 0)
 have hcl2 : ClS (S ++ [MObj.cells (encLt k f to i c key (.mk n m s q w) es su mm cp).cells]) := hcl.app fun o ho => by
  simp only [List.mem_cons, List.not_mem_nil, or_false] at ho
  subst ho
  exact fun y hy => by
   have hc := cl_encLt (S ++ [MObj.cells (encLt k f to i c key (.mk n m s q w) es su mm cp).cells]).length k f to i c key (.mk n m s q w) es su mm cp
   cases hc with | agg _ hc => exact hc y hy
 have hob2 : ((tkS (S ++ [MObj.cells (encLt k f to i c key (.mk n m s q w) es su mm cp).cells]) t pid 0 Q).set ((S ++ [MObj.cells (encLt k f to i c key (.mk n m s q w) es su mm cp).cells]).length + 1) (qo (cutQ Q 0 ++ [b])))[pid]? = some (po t ((S ++ [MObj.cells (encLt k f to i c key (.mk n m s q w) es su mm cp).cells]).length + 1) (cutQ Q 0).length) := by rw [List.getElem?_set_ne h2.ne.symm]; exact h2.ob
 refine zB <| qR V <| qB V V V V V <| qA V V V <| qN <| zB ?_
 refine zX0 [] [_] mo (by decide) V V V V ?_
 refine dO V V V (zY V V Vv) <| dO V V V (zD0 V V V Vv) <| dO V V V (zE V V fo165_0 Vv) <| dO V V V (zP1 V V h.ob ta39 V Vv) <| dO V V V (zO0 V V V ta35 V Vv) <| zU V V (.cons (zD1 V V V co15 (hB _)) .nil) <| dO V V V (zF1 V V Vv) <| zP0 <| zB <| zB <| qR V <| qM V V V <| qO V <| zS2 V V V V <| qN <| zL V (by simp [hb]) ?_
 refine zQ <| zB <| zB <| qR V <| qM V V V <| qO V <| zD0 V V V <| qF V V V zO3 <| qF V V V zZ3 <| qO V <| zP1 V V h.ob ta23 V <| qO V <| op_len_ow V zB0 V (zK1 h.row) <| qC V V V V (show intCmp .geq ((Q.length : Nat) : Int) 400 = some true by simp [intCmp]; omega) ?_
 refine qN <| zT V (V) <| qR V <| qM V V V <| qO V <| zD0 V V V <| qF V V V zO3 ?_
 refine qX V V V V co91 (qtake_spec _ t pid r Q hx 0 b0 hb0 (by omega)) ?_
 refine qN <| zB ?_
 rw [← List.append_nil (tkS (S ++ [MObj.cells (encLt k f to i c key (.mk n m s q w) es su mm cp).cells]) t pid 0 Q)]
 refine qR V <| qM V V V <| qM V V V <| qO V <| zD0 V V V <| qF V V V zO3 <| qF V V V zZ3 <| qO V <| zP1 V V h2.ob ta23 V <| qM V V V <| qO V <| zJ1 V zB0 el9 V V (by decide) (by decide) V V ?_
 refine qO V <| op_append_ow V zB0 el9 V V (zK1 h2.row) (by simp [hql]) (by simp [hql]) ?_
 refine zU6 ((tkS (S ++ [MObj.cells (encLt k f to i c key (.mk n m s q w) es su mm cp).cells]) t pid 0 Q).set ((S ++ [MObj.cells (encLt k f to i c key (.mk n m s q w) es su mm cp).cells]).length + 1) (qo (cutQ Q 0 ++ [b])) ++ []) (by rw [List.append_nil]; simp [qo, flat]; rfl) ?_
 refine qO V <| zD0 V V V <| qF V V V zO3 <| qF V V V zZ3 <| qO V <| zK6 V V V hob2 sz23 V V (zA V) <| qN <| zB <| qR V <| qA V V V <| qN <| zI <| bq_at (addS (tkS (S ++ [MObj.cells (encLt k f to i c key (.mk n m s q w) es su mm cp).cells]) t pid 0 Q) t pid ((S ++ [MObj.cells (encLt k f to i c key (.mk n m s q w) es su mm cp).cells]).length + 1) (cutQ Q 0 ++ [b]) ++ []) (by unfold addS; simp [setMany, po]; rfl) ?_
 exact zG4 (.inr V) Tryz.results37 V (.refl _) .iface0 (by rw [addS_len]; simp [tkS]; omega) (cls_add (cls_tk hcl2 hx) h2) ⟨rfl, by simp⟩
theorem putN_spec (S : MS) (t : List Tbl) (pid r : Nat) (Q : List Bs) (h : PoAt S t pid r Q) (k f to i c : Int) (key : Bs) (x : Val) (es : List Ety) (su : List Su) (mm : List Mm) (cp : List Cp) (hB : ∀ S : MS, MCalls Tryz.prog 15 [.lst none 4 (t.map encTb), encLt k f to i c key x es su mm cp] S fun v σ' => v = .str (bs []) ∧ σ' = S) : MCalls Tryz.prog 37 [.ref pid 0, encLt k f to i c key x es su mm cp] S fun v σ' => v = .iface 49 (.int .i64 10) ∧ σ' = S := by
 obtain ⟨n, m, s, q, w⟩ := x
 refine zM Tryz.func37 V Tryz.ntmps37 (zA V) ?_
 refine zW0 fun _ hcl => ?_
 rw [List.append_nil] at hcl
 refine zB <| qR V <| qB V V V V V <| qA V V V <| qN <| zB ?_
 refine zX0 [] [_] mo (by decide) V V V V ?_
 refine dO V V V (zY V V Vv) <| dO V V V (zD0 V V V Vv) <| dO V V V (zE V V fo165_0 Vv) <| dO V V V (zP1 V V h.ob ta39 V Vv) <| dO V V V (zO0 V V V ta35 V Vv) <| zU V V (.cons (zD1 V V V co15 (hB _)) .nil) <| dO V V V (zF1 V V Vv) <| zP0 <| zB <| zB <| qR V <| qM V V V <| qO V <| zS2 V V V V <| qN <| zT V (by simp) ?_
 refine zB <| qR V <| qO V <| zR1 V V zL1 (by simp) ?_
 refine qA V V V <| qN <| zI ?_
 exact zG4 (.inr V) Tryz.results37 V (.refl _) (.iface _ _ (.int _ _)) (by simp) hcl Vv
theorem lose_spec (S : MS) (t : List Tbl) (pid r : Nat) (Q : List Bs) (h : PoAt S t pid r Q) (i : Nat) (x : Bs) (hi : Q[i]? = some x) (hl : Q.length ≤ 1000000) : MCalls Tryz.prog 50 [.ref pid 0, .int .i64 (i : Int)] S fun v σ' => v = .iface0 ∧ σ' = tkS S t pid i Q := by
 refine zM Tryz.func50 V Tryz.ntmps50 (zA V) ?_
 refine zW0 fun _ hcl => ?_
 rw [List.append_nil] at hcl
 have hil := (zD.1 hi).1
 have hh := qhas_spec S t pid r Q h (i : Int) (by omega)
 rw [show (decide ((0 : Int) ≤ (i : Int)) && decide ((i : Int) < (Q.length : Int))) = true by simp; omega] at hh
 have ht := qtake_spec S t pid r Q h i x hi hl
 rw [← List.append_nil S] at hh
 refine zB <| qR V <| qA V V V <| qN <| zB <| zB <| qR V <| qM V V V <| qO V <| zD0 V V V <| qF V V V zO3 <| qM V V V ?_
 refine qX V V V V co92 (hh) ?_
 refine qO V <| zC1 V V <| qN <| zL V (V) <| zQ <| zB ?_
 rw [List.append_nil]
 refine qR V <| qM V V V <| qO V <| zD0 V V V <| qF V V V zO3 <| qM V V V ?_
 refine qX V V V V co91 (ht) ?_
 refine qN <| zB ?_
 rw [← List.append_nil (tkS S t pid i Q)]
 refine qR V <| qA V V V <| qN <| zI ?_
 exact zG4 (.inr V) Tryz.results50 V (.refl _) .iface0 (by simp [tkS]) (cls_tk hcl h) ⟨rfl, by simp⟩
theorem ret_cellTF {P : Program} {fn : Func} {S S' : MS} {R : MV → MS → Prop} {env : Env} {e : Exit} {a t id off t2 : Nat} {l : List MV} {ta : Option Nat} {x y x2 : MV} (he : e = .normal ∨ e = .ret) (hres : fn.results = #[.cell a t, .tmp t2]) (ha : get env a = some (.ref id off)) (hl : S'[id]? = some (.cells l)) (ht : tyAgg P t = some ta) (hm : loadMV ta l off = some x) (hx2 : get env t2 = some x2) (hs : Sub x y) (hc : Cl S'.length y) (hc2 : Cl S'.length x2) (hlen : S.length ≤ S'.length) (hS : ClS S') (hR : R (.tup [y, x2]) S') : BodyQ P fn S R e env (S' ++ []) := by
 refine ⟨he, [x, x2], .tup [y, x2], S', [], ?_, .tup (.cons hs (.cons (.refl _) .nil)), .tup _ (fun z hz => ?_), rfl, hlen, .inr hS, hR⟩
 ·rw [hres]
  exact .cell ha (by rw [List.append_nil]; exact hl) ht hm (.tmp hx2 .nil)
 ·simp only [List.mem_cons, List.not_mem_nil, or_false] at hz
  rcases hz with rfl | rfl
  ·exact hc
  ·exact hc2
theorem pread_spec (S : MS) (t : List Tbl) (pid r : Nat) (Q : List Bs) (h : PoAt S t pid r Q) (k f to i c : Int) (key : Bs) (y : Val) (es : List Ety) (su : List Su) (mm : List Mm) (cp : List Cp) (b : Bs) (hR : ∀ S : MS, MCalls Tryz.prog 16 [.lst none 4 (t.map encTb), .str (bs b)] S fun v σ' => v = .tup [encLt k f to i c key y es su mm cp, .iface0] ∧ σ' = S) : MCalls Tryz.prog 93 [.ref pid 0, .str (bs b)] S fun v σ' => v = encLt k f to i c key y es su mm cp ∧ σ' = S := by
 obtain ⟨n, m, s, q, w⟩ := y
 refine zM Tryz.func93 V Tryz.ntmps93 (zA V) ?_
 refine zW0 fun _ hcl => ?_
 rw [List.append_nil] at hcl
 refine zB <| qR V <| qO V <| zN0 V zm35 V V <| qN <| zB <| qR V <| qM V V V <| qO V <| zD0 V V V <| qF V V V fo165_0 <| qO V <| zP1 V V h.ob ta39 V <| qM V V V ?_
 refine qX V V V V co16 (hR _) ?_
 refine qM V V V <| qO V <| zJ0 V V V <| qO V <| zJ0 V V V <| qO V <| zN0 V zm35 V V <| qO V <| zC0 V V V V sz35 V V (zA V) V <| qA V V V <| qN <| zB <| qR V <| qL V V V V ta35 V <| qO V <| zC0 V V V V sz35 V V (zA V) V <| qN <| zI ?_
 exact zK2 (.inr V) Tryz.results93 V (k := 0) V ta35 V (.refl _) (cl_encLt _ _ _ _ _ _ _ (.mk _ _ _ _ _) _ _ _ _) Vv
theorem ptake_spec (S : MS) (t : List Tbl) (pid r : Nat) (Q : List Bs) (h : PoAt S t pid r Q) (j : Nat) (b : Bs) (hj : Q[j]? = some b) (hl : Q.length ≤ 1000000) (k f to i c : Int) (key : Bs) (y : Val) (es : List Ety) (su : List Su) (mm : List Mm) (cp : List Cp) (hR : ∀ S : MS, MCalls Tryz.prog 16 [.lst none 4 (t.map encTb), .str (bs b)] S fun v σ' => v = .tup [encLt k f to i c key y es su mm cp, .iface0] ∧ σ' = S) : MCalls Tryz.prog 38 [.ref pid 0, .int .i64 (j : Int)] S fun v σ' => v = .tup [encLt k f to i c key y es su mm cp, .iface0] ∧ σ' = tkS (S ++ [MObj.cells (encLt k f to i c key y es su mm cp).cells]) t pid j Q := by
 have hil := (zD.1 hj).1
 have hh := fun M : MS => qhas_spec (S ++ M) t pid r Q (h.sl M) (j : Int) (by omega)
 rw [show (decide ((0 : Int) ≤ (j : Int)) && decide ((j : Int) < (Q.length : Int))) = true by simp; omega] at hh
 have hx := h.sl [MObj.cells [.int .i64 0, .int .i64 0, .int .i64 0, .int .u64 0, .int .i64 0, .str (bs []), .int .u64 0, .int .u64 0, .lst0, .lst0, .lst0, .lst0, .lst0, .lst0, .lst0]]
 have ht := qtake_spec (S ++ [MObj.cells [.int .i64 0, .int .i64 0, .int .i64 0, .int .u64 0, .int .i64 0, .str (bs []), .int .u64 0, .int .u64 0, .lst0, .lst0, .lst0, .lst0, .lst0, .lst0, .lst0]]) t pid r Q hx j b hj hl
 have h2 := hx.tk (i := j)
 have hre := pread_spec (tkS (S ++ [MObj.cells [.int .i64 0, .int .i64 0, .int .i64 0, .int .u64 0, .int .i64 0, .str (bs []), .int .u64 0, .int .u64 0, .lst0, .lst0, .lst0, .lst0, .lst0, .lst0, .lst0]]) t pid j Q) t pid ((S ++ [MObj.cells [.int .i64 0, .int .i64 0, .int .i64 0, .int .u64 0, .int .i64 0, .str (bs []), .int .u64 0, .int .u64 0, .lst0, .lst0, .lst0, .lst0, .lst0, .lst0, .lst0]]).length + 1) _ h2 k f to i c key y es su mm cp b hR
 obtain ⟨n, m, s, q, w⟩ := y
 refine zM Tryz.func38 V Tryz.ntmps38 (zA V) ?_
 refine zW0 fun _ hcl => ?_
 rw [List.append_nil] at hcl
 have hpl := h.pl
 have hcz : (tkS (S ++ [MObj.cells [.int .i64 0, .int .i64 0, .int .i64 0, .int .u64 0, .int .i64 0, .str (bs []), .int .u64 0, .int .u64 0, .lst0, .lst0, .lst0, .lst0, .lst0, .lst0, .lst0]]) t pid j Q)[S.length]? = some (.cells [.int .i64 0, .int .i64 0, .int .i64 0, .int .u64 0, .int .i64 0, .str (bs []), .int .u64 0, .int .u64 0, .lst0, .lst0, .lst0, .lst0, .lst0, .lst0, .lst0]) := by
  unfold tkS
  rw [List.getElem?_append_left (by simp), List.getElem?_set_ne (by omega)]
  simp
 have hEq : (tkS (S ++ [MObj.cells [.int .i64 0, .int .i64 0, .int .i64 0, .int .u64 0, .int .i64 0, .str (bs []), .int .u64 0, .int .u64 0, .lst0, .lst0, .lst0, .lst0, .lst0, .lst0, .lst0]]) t pid j Q).set S.length (.cells (encLt k f to i c key (.mk n m s q w) es su mm cp).cells) = tkS (S ++ [MObj.cells (encLt k f to i c key (.mk n m s q w) es su mm cp).cells]) t pid j Q := by
  unfold tkS
  rw [List.set_append_left _ _ (by simp), List.set_comm _ _ (by omega), List.set_append_right _ _ (Nat.le_refl _)]
  simp
 have hcl2 : ClS (S ++ [MObj.cells (encLt k f to i c key (.mk n m s q w) es su mm cp).cells]) := hcl.app fun o ho => by
  simp only [List.mem_cons, List.not_mem_nil, or_false] at ho
  subst ho
  exact fun y hy => by
   have hc := cl_encLt (S ++ [MObj.cells (encLt k f to i c key (.mk n m s q w) es su mm cp).cells]).length k f to i c key (.mk n m s q w) es su mm cp
   cases hc with | agg _ hc => exact hc y hy
 refine zB <| qR V <| qO V <| zN0 V zm35 V V <| qA V V V <| qN <| zB <| zB <| qR V <| qM V V V <| qO V <| zD0 V V V <| qF V V V zO3 <| qM V V V ?_
 refine qX V V V V co92 (hh _) ?_
 refine qO V <| zC1 V V <| qN <| zL V (V) <| zQ <| zB <| qR V <| qM V V V <| qM V V V <| qO V <| zD0 V V V <| qF V V V zO3 <| qM V V V ?_
 refine qX V V V V co91 (ht) ?_
 refine qX V V V V co93 (hre) ?_
 rw [← List.append_nil (tkS (S ++ [MObj.cells [.int .i64 0, .int .i64 0, .int .i64 0, .int .u64 0, .int .i64 0, .str (bs []), .int .u64 0, .int .u64 0, .lst0, .lst0, .lst0, .lst0, .lst0, .lst0, .lst0]]) t pid j Q)]
 refine qO V <| zK6 V V V hcz sz35 V V (zA V) <| qA V V V <| qN <| zI <| bq_at (tkS (S ++ [MObj.cells (encLt k f to i c key (.mk n m s q w) es su mm cp).cells]) t pid j Q ++ []) (by rw [← hEq]; rfl) ?_
 exact ret_cellTF (.inr V) Tryz.results38 V (id := S.length) (by unfold tkS; rw [List.getElem?_append_left (by simp), List.getElem?_set_ne (by omega)]; simp; rfl) ta35 V V (.refl _) (cl_encLt _ _ _ _ _ _ _ (.mk _ _ _ _ _) _ _ _ _) .iface0 (by simp [tkS]; omega) (cls_tk hcl2 (h.sl _)) ⟨rfl, by simp⟩
theorem ptakeN_spec (S : MS) (t : List Tbl) (pid r : Nat) (Q : List Bs) (h : PoAt S t pid r Q) (j : Int) (hj : (decide (0 ≤ j) && decide (j < Q.length)) = false) (hl : Q.length ≤ 1000000) : MCalls Tryz.prog 38 [.ref pid 0, .int .i64 j] S fun v σ' => v = .tup [encLt 0 0 0 0 0 [] noV [] [] [] [], .iface 49 (.int .i64 19)] ∧ σ' = S := by
 refine zM Tryz.func38 V Tryz.ntmps38 (zA V) ?_
 refine zW0 fun _ hcl => ?_
 rw [List.append_nil] at hcl
 have hh := fun M : MS => qhas_spec (S ++ M) t pid r Q (h.sl M) j (by omega)
 rw [hj] at hh
 refine zB <| qR V <| qO V <| zN0 V zm35 V V <| qA V V V <| qN <| zB <| zB <| qR V <| qM V V V <| qO V <| zD0 V V V <| qF V V V zO3 <| qM V V V ?_
 refine qX V V V V co92 (hh _) ?_
 refine qO V <| zC1 V V <| qN <| zT V (V) <| zB <| qR V <| qO V <| zA1 V zA5 zm35 .nil (by kernel_rfl) ?_
 refine qO V <| zR1 V V zL1 (by simp) ?_
 refine qO V <| zC0 V V V V sz35 V V (zA V) V <| qA V V V <| qN <| zI ?_
 exact ret_cellT (y := encLt 0 0 0 0 0 [] noV [] [] [] []) (.inr V) Tryz.results38 V (k := 0) V ta35 V V (.agg (.cons (.refl _) (.cons (.refl _) (.cons (.refl _) (.cons (.refl _) (.cons (.refl _) (.cons (.refl _) (.cons (.refl _) (.cons (.refl _) (.cons (.nil 1) (.cons (.nil 1) (.cons (.nil 5) (.cons (.nil 6) (.cons (.nil 2) (.cons (.nil 2) (.cons (.nil 3) (.nil))))))))))))))))) (cl_encLt _ _ _ _ _ _ _ _ _ _ _ _) (.iface _ _ (.int _ _)) Vv
theorem twice_spec (S : MS) (t : List Tbl) (pid r : Nat) (Q : List Bs) (h : PoAt S t pid r Q) (j : Nat) (b : Bs) (hj0 : Q[j]? = some b) (hl : Q.length < 400) : MCalls Tryz.prog 40 [.ref pid 0, .int .i64 (j : Int)] S fun v σ' => v = .iface0 ∧ σ' = addS S t pid r (Q ++ [b]) := by
 refine zM Tryz.func40 V Tryz.ntmps40 (zA V) ?_
 refine zW0 fun _ hcl => ?_
 rw [List.append_nil] at hcl
 have hil := (zD.1 hj0).1
 have hj : (decide ((0 : Int) ≤ (j : Int)) && decide ((j : Int) < (Q.length : Int))) = true := by simp; omega
 have hh := fun M : MS => qhas_spec (S ++ M) t pid r Q (h.sl M) (j : Int) (by omega)
 rw [hj] at hh
 have hob2 : (S.set r (qo (Q ++ [b])))[pid]? = some (po t r Q.length) := by rw [List.getElem?_set_ne h.ne.symm]; exact h.ob
 refine zB <| qR V <| qA V V V <| qN <| zB <| zX <| zB <| qR V <| qM V V V <| qO V <| zD0 V V V <| qF V V V zO3 <| qM V V V ?_
 refine qX V V V V co92 (hh _) ?_
 refine qO V <| zC1 V V <| qA V V V <| qN <| zL V (V) <| zB <| qR V <| qM V V V <| qO V <| zD0 V V V <| qF V V V zO3 <| qF V V V zZ3 <| qO V <| zP1 V V h.ob ta23 V <| qO V <| op_len_ow V zB0 V (zK1 h.row) <| qC V V V V (show intCmp .geq ((Q.length : Nat) : Int) 400 = some false by simp [intCmp]; omega) ?_
 refine qA V V V <| qN <| zL V (V) <| zQ <| zB ?_
 refine zX0 [12, 13, 14, 15, 19] [_, S ++ [], S ++ [], S ++ [], S.set r (qo (Q ++ [b])) ++ [], addS S t pid r (Q ++ [b]) ++ []] mo (by decide) V V V V ?_
 refine zU V V (.cons (zY V V Vv) (.cons (zY V V Vv) (.cons (zY V V Vv) (.cons (zY V V Vv) (.cons (zY V V Vv) (.nil)))))) <| zU V V (.cons (zY V V Vv) (.cons (zY V V Vv) (.cons (zY V V Vv) (.cons (zY V V Vv) (.cons (zY V V Vv) (.nil)))))) <| zU V V (.cons (zD0 V V V Vv) (.cons (zD0 V V V Vv) (.cons (zD0 V V V Vv) (.cons (zD0 V V V Vv) (.cons (zD0 V V V Vv) (.nil)))))) <| zU V V (.cons (zE V V zO3 Vv) (.cons (zE V V zO3 Vv) (.cons (zE V V zO3 Vv) (.cons (zE V V zO3 Vv) (.cons (zE V V zO3 Vv) (.nil)))))) <| zU V V (.cons (zE V V zZ3 Vv) (.cons (zE V V zZ3 Vv) (.cons (zE V V zZ3 Vv) (.cons (zE V V zZ3 Vv) (.cons (zE V V zZ3 Vv) (.nil)))))) <| zU V V (.cons (zP1 V V h.ob ta23 V Vv) (.cons (zP1 V V h.ob ta23 V Vv) (.cons (zP1 V V h.ob ta23 V Vv) (.cons (zP1 V V h.ob ta23 V Vv) (.nil))))) <| zU V V (.cons (zY V V Vv) (.cons (zY V V Vv) (.cons (zY V V Vv) (.cons (zY V V Vv) (.cons (zY V V Vv) (.nil)))))) <| zU V V (.cons (zD0 V V V Vv) (.cons (zD0 V V V Vv) (.cons (zD0 V V V Vv) (.cons (zD0 V V V Vv) (.cons (zD0 V V V Vv) (.nil)))))) <| zU V V (.cons (zE V V zO3 Vv) (.cons (zE V V zO3 Vv) (.cons (zE V V zO3 Vv) (.cons (zE V V zO3 Vv) (.cons (zE V V zO3 Vv) (.nil)))))) <| zU V V (.cons (zE V V zZ3 Vv) (.cons (zE V V zZ3 Vv) (.cons (zE V V zZ3 Vv) (.cons (zE V V zZ3 Vv) (.cons (zE V V zZ3 Vv) (.nil)))))) <| dO V V V (zP1 V V h.ob ta23 V Vv) <| dO V V V (zY V V Vv) <| zB1 V V V V (op_indexAddr_ow V zB0 sz9 V V V hil (zK1 h.row) Vv) <| zB1 V V V V (zD6 V V (zK1 h.row) ta9 (loadX hj0) Vv) <| zB1 V V V V (zJ1 V zB0 el9 V V (by decide) (by decide) V V Vv) ?_
 refine zB1 V V V V (op_append_ow V zB0 el9 V V (zK1 h.row) (by simp; omega) (by simp; omega) ⟨rfl, by rw [List.set_append_left _ _ h.rl]; simp [qo, flat]; rfl⟩) ?_
 refine zU V V (.cons (zD0 V V V Vv) (.cons (zD0 V V V Vv) (.nil))) <| zU V V (.cons (zE V V zO3 Vv) (.cons (zE V V zO3 Vv) (.nil))) <| dO V V V (zE V V zZ3 Vv) <| zB1 V V V V (zK6 V V V hob2 sz23 V V (zA V) ⟨rfl, by unfold addS; simp [setMany, po]; rfl⟩) ?_
 refine zP0 <| zB <| qR V <| qA V V V <| qN <| zI ?_
 exact zG4 (.inr V) Tryz.results40 V (.refl _) .iface0 (by rw [addS_len]; exact Nat.le_refl _) (cls_add hcl h) Vv
theorem allE_spec (S : MS) (t : List Tbl) (pid r : Nat) (h : PoAt S t pid r []) : MCalls Tryz.prog 41 [.ref pid 0] S fun v σ' => v = .lst0 ∧ σ' = S := by
 refine zM Tryz.func41 V Tryz.ntmps41 (zA V) ?_
 refine zW0 fun _ hcl => ?_
 rw [List.append_nil] at hcl
 refine zB <| qR V <| qA V V V <| qN <| zB <| qR V <| qA V V V <| qN <| zB <| zB <| qR V <| qM V V V <| qO V <| zD0 V V V <| qF V V V zO3 <| qF V V V zZ3 <| qO V <| zP1 V V h.ob ta23 V <| qO V <| op_len_ow V zB0 V (zK1 h.row) <| qM V V V <| qN <| zX ?_
 refine zS1 (α := Nat) [(0, _), (10, _), (11, _)] (fun i => [(3, .lst0), (12, .int .i64 (i : Int))]) (fun i => []) (fun i => i = 0) (fun i => 0 - i) (0) (.keep V (.keep V (.keep V (.nil)))) (.keep V (.keep V (.nil))) (V) (V) ?_
 rintro i hi
 subst hi
 refine zB <| qR V <| qC V V V V (V) <| qN <| zB <| zL V (V) <| zM1 <| zB <| qR V <| qM V V V <| qA V V V <| qN <| zI ?_
 exact zG4 (.inr V) Tryz.results41 V (.refl _) .lst0 (by simp) hcl Vv
theorem pnew0_spec (S : MS) (t : List Tbl) (ht : t.length ≤ 1000) : MCalls Tryz.prog 35 [.lst none 4 (t.map encTb)] S fun v σ' => v = .ref S.length 0 ∧ σ' = S ++ [.cells [.lst none 4 (t.map encTb), .lst0]] := by
 refine zM Tryz.func35 V Tryz.ntmps35 (zA V) ?_
 refine zW0 fun _ hcl => ?_
 rw [List.append_nil] at hcl
 have hcn : ClS (S ++ [.cells [.lst none 4 (t.map encTb), .lst0]]) := hcl.app fun o ho => by
  simp only [List.mem_cons, List.not_mem_nil, or_false] at ho
  subst ho
  intro y hy
  simp only [List.mem_cons, List.not_mem_nil, or_false] at hy
  rcases hy with rfl | rfl
  ·exact cl_tbs _ _
  ·exact .lst0
 refine zB <| qR V <| qA V V V <| qN <| zB <| qR V <| qM V V V ?_
 refine qX V V V V co83 (tbClone_spec t ht _) ?_
 refine qO V <| zA1 V Tryz.underlying165 zm165 (.cons fo165_0 sz39 V V (zA V) .nil) (by kernel_rfl) ?_
 refine qB V V V V V <| qA V V V <| qN <| zI ?_
 exact ret_tmpT (.inr V) Tryz.results35 V (.refl _) (.ref _ _ (by simp)) (by simp) hcn Vv
theorem pnew_spec (S : MS) (t : List Tbl) (ht : t.length ≤ 1000) : MCalls Tryz.prog 35 [.lst none 4 (t.map encTb)] S fun v σ' => v = .ref S.length 0 ∧ σ' = S ++ [po t (S.length + 1) 0, qo []] := by
 refine (MCalls.cellow S.length 1 9 1 (pnew0_spec S t ht) (l := [.lst none 4 (t.map encTb), .lst0]) (by simp) V).mono fun v σ' hv => ⟨hv.1, ?_⟩
 rw [hv.2]
 simp [po, qo]
def askB (i : Nat) : Bs := plL false 10 100 0 i 0 []
def getB : Bs := plL true 3 100 0 0 0 [109, 49]
abbrev askV (i : Nat) : MV := encLt ((10 : Nat) : Int) ((100 : Nat) : Int) ((0 : Nat) : Int) (i : Int) ((0 : Nat) : Int) [] noV [] [] [] []
abbrev getV : MV := encLt ((3 : Nat) : Int) ((100 : Nat) : Int) ((0 : Nat) : Int) ((0 : Nat) : Int) ((0 : Nat) : Int) [109, 49] noV [] [] [] []
abbrev zeV : MV := encLt 0 0 0 0 0 [] noV [] [] [] []
abbrev T4 : MV := .lst none 4 (tabs4.map encTb)
theorem view0 : viewF [] [] = true := by decide
theorem ents0 (b : Bool) : entsF tabs4 [] b = true := by simp [entsF, rowF]
theorem row0 : rowF tabs4 (([] : List Su).map Prod.fst) = true := by simp [rowF]
theorem ask_is : letF tabs4 ((10 : Nat) : Int) ((100 : Nat) : Int) ((0 : Nat) : Int) ((0 : Nat) : Int) [] noV [] [] [] [] = true := by
 unfold letF
 rw [right4, view0, ents0, row0]
 simp [placeF, bareF_, ofP]
theorem get_is : letF tabs4 ((3 : Nat) : Int) ((100 : Nat) : Int) ((0 : Nat) : Int) ((0 : Nat) : Int) [109, 49] noV [] [] [] [] = true := by
 unfold letF
 rw [right4, view0, ents0, row0]
 simp [placeF, bareF_, ofP, show findP tabs4 [109, 49] = some tM from find_m1]
theorem ze_is : letF tabs4 0 0 0 0 [] noV [] [] [] [] = false := by
 unfold letF
 simp
theorem ask_bytes {i : Nat} (hi : i < 18446744073709551616) (S : MS) : MCalls Tryz.prog 15 [T4, askV i] S fun v σ' => v = .str (bs (askB i)) ∧ σ' = S := by
 have hs : ∀ x ∈ [10, 100, 0, i, 0], x < 18446744073709551616 := by simp; omega
 refine bytesY_spec tabs4 10 100 0 i 0 [] noV [] [] [] [] (plB false 10 100 0 i 0 []) plB_ne (by have := plB_len (pk := false) (key := []) hs (by simp); omega) (fun S => ?_) (fun id tt => letW_writes _ id tt 10 100 0 i 0 [] noV [] [] [] [] hs false (by decide) (by simp)) S
 have := letIs_spec tabs4 ((10 : Nat) : Int) ((100 : Nat) : Int) ((0 : Nat) : Int) (i : Int) ((0 : Nat) : Int) [] noV [] [] [] [] okV_no (by simp) (by simp) S
 rw [ask_is] at this
 exact this
theorem get_bytes (S : MS) : MCalls Tryz.prog 15 [T4, getV] S fun v σ' => v = .str (bs getB) ∧ σ' = S := by
 have hs : ∀ x ∈ [3, 100, 0, 0, 0], x < 18446744073709551616 := by simp
 refine bytesY_spec tabs4 3 100 0 0 0 [109, 49] noV [] [] [] [] (plB true 3 100 0 0 0 [109, 49]) plB_ne (by have := plB_len (pk := true) (key := [109, 49]) hs (by simp); omega) (fun S => ?_) (fun id tt => letW_writes _ id tt 3 100 0 0 0 [109, 49] noV [] [] [] [] hs true (by decide) (by simp)) S
 have := letIs_spec tabs4 ((3 : Nat) : Int) ((100 : Nat) : Int) ((0 : Nat) : Int) ((0 : Nat) : Int) ((0 : Nat) : Int) [109, 49] noV [] [] [] [] okV_no (by simp) (by simp) S
 rw [get_is] at this
 exact this
theorem ze_bytes (S : MS) : MCalls Tryz.prog 15 [T4, zeV] S fun v σ' => v = .str (bs []) ∧ σ' = S := by
 refine bytesN_spec tabs4 0 0 0 0 0 [] noV [] [] [] [] (fun S => ?_) S
 have := letIs_spec tabs4 0 0 0 0 0 [] noV [] [] [] [] okV_no (by simp) (by simp) S
 rw [ze_is] at this
 exact this
theorem right4_spec (S : MS) : MCalls Tryz.prog 22 [T4] S fun v σ' => v = .bool true ∧ σ' = S := by
 have := right_spec tabs4 S
 rw [right4] at this
 exact this
theorem headB_app (k f to i c : Nat) (tl : Bs) : headB k f to i c ++ tl = numB k ++ (numB f ++ (numB to ++ (numB i ++ (numB c ++ tl)))) := by
 simp [headB]
theorem ask_read {i : Nat} (hi : i < 18446744073709551616) (S : MS) : MCalls Tryz.prog 16 [T4, .str (bs (askB i))] S fun v σ' => v = .tup [askV i, .iface0] ∧ σ' = S := by
 have hs : ∀ x ∈ [10, 100, 0, i, 0], x < 18446744073709551616 := by simp; omega
 have e : plB false 10 100 0 i 0 [] = numB 10 ++ (numB 100 ++ (numB 0 ++ (numB i ++ (numB 0 ++ [])))) := headB_app 10 100 0 i 0 []
 refine read_ok tabs4 10 100 0 i 0 [] noV [] [] [] [] (plB false 10 100 0 i 0 []) (by have := plB_len (pk := false) (key := []) hs (by simp); omega) right4_spec (fun id S h => ?_) (fun S => ask_bytes hi S) S
 rw [e] at h
 exact lletter_ok tabs4 id 10 100 0 i 0 [] (by omega) (by omega) (by omega) hi (by omega) (by simp) (by decide) S h
theorem get_read (S : MS) : MCalls Tryz.prog 16 [T4, .str (bs getB)] S fun v σ' => v = .tup [getV, .iface0] ∧ σ' = S := by
 have hs : ∀ x ∈ [3, 100, 0, 0, 0], x < 18446744073709551616 := by simp
 have e : plB true 3 100 0 0 0 [109, 49] = numB 3 ++ (numB 100 ++ (numB 0 ++ (numB 0 ++ (numB 0 ++ (numB ([109, 49] : Bs).length ++ [109, 49]))))) := headB_app 3 100 0 0 0 _
 refine read_ok tabs4 3 100 0 0 0 [109, 49] noV [] [] [] [] (plB true 3 100 0 0 0 [109, 49]) (by have := plB_len (pk := true) (key := [109, 49]) hs (by simp); omega) right4_spec (fun id S h => ?_) (fun S => get_bytes S) S
 rw [e] at h
 exact lletterK_ok tabs4 id 3 100 0 0 0 [109, 49] (by omega) (by omega) (by omega) (by omega) (by omega) (by rw [numB_last (by decide)]; simp) (by decide) S h
theorem askB_ne (i : Nat) : askB i ≠ [] := fun h => by
 have := congrArg List.length h
 simp [askB, plL, leB_len] at this
theorem getB_ne : getB ≠ [] := fun h => by
 have := congrArg List.length h
 simp [getB, plL, leB_len] at this
theorem rSums0 (S : MS) : MCalls Tryz.prog 109 [.lst none 2 [], .lst none 2 []] S fun v σ' => v = .bool true ∧ σ' = S := by
 refine zM Tryz.func109 V Tryz.ntmps109 (zA V) ?_
 refine zB <| qR V <| qA V V V <| qN <| zB <| zB <| qR V <| qM V V V <| qE V V zR2 V <| qM V V V <| qE V V zR2 V <| qC V V V V (V) <| qN <| zL V (V) <| zQ <| zB <| zB <| qR V <| qA V V V <| qN <| zX ?_
 refine zS1 (α := Nat) [(0, _), (1, _)] (fun i => [(5, .int .i64 (i : Int))]) (fun i => []) (fun i => i = 0) (fun i => 0 - i) (0) (.keep V (.keep V (.nil))) (.keep V (.nil)) (V) (V) ?_
 rintro i hi
 subst hi
 refine zB <| zB <| qR V <| qM V V V <| qM V V V <| qE V V zR2 V <| qC V V V V (V) <| qN <| zL V (V) <| zM1 <| zB <| qR V <| qA V V V <| qN <| zI ?_
 exact zR (.inr V) Tryz.results109 V (.of_eq (V)) (.bool _) Vv
theorem rViews0 (S : MS) : MCalls Tryz.prog 105 [encVw [] [], encVw [] []] S fun v σ' => v = .bool true ∧ σ' = S := by
 refine zM Tryz.func105 V Tryz.ntmps105 (zA V) ?_
 refine zB <| qR V <| qB V V V V V <| qB V V V V V <| qA V V V <| qN <| zB <| zB <| qR V <| qF V V V fo33_0 <| qL V V V V ta30 V <| qE V V zD3 V <| qF V V V fo33_0 <| qL V V V V ta30 V <| qE V V zD3 V <| qC V V V V (V) <| qM V V V <| qF V V V fo33_1 ?_
 refine qL V V V V ta31 V <| qE V V zP3 V <| qF V V V fo33_1 <| qL V V V V ta31 V <| qE V V zP3 V <| qC V V V V (V) <| qP V V V V <| qN <| zL V (V) <| zQ <| zB <| zB <| qR V <| qA V V V <| qN <| zX ?_
 refine zS1 (α := Nat) [(2, _), (3, _)] (fun i => [(5, .int .i64 (i : Int))]) (fun i => [.cells [.lst none 2 [], .lst none 3 []], .cells [.lst none 2 [], .lst none 3 []]]) (fun i => i = 0) (fun i => 0 - i) (0) (.keep V (.keep V (.nil))) (.keep V (.nil)) (V) (V) ?_
 rintro i hi
 subst hi
 refine zB <| zB <| qR V <| qM V V V <| qF V V V fo33_0 <| qL V V V V ta30 V <| qE V V zD3 V <| qC V V V V (V) <| qN <| zL V (V) <| zM1 <| zB <| zB <| qR V <| qA V V V <| qN <| zX ?_
 refine zS1 (α := Nat) [(2, _), (3, _)] (fun i => [(6, .int .i64 (i : Int))]) (fun i => [.cells [.lst none 2 [], .lst none 3 []], .cells [.lst none 2 [], .lst none 3 []]]) (fun i => i = 0) (fun i => 0 - i) (0) (.keep V (.keep V (.nil))) (.keep V (.nil)) (V) (V) ?_
 rintro i hi
 subst hi
 refine zB <| zB <| qR V <| qM V V V <| qF V V V fo33_1 <| qL V V V V ta31 V <| qE V V zP3 V <| qC V V V V (V) <| qN <| zL V (V) <| zM1 <| zB <| qR V <| qA V V V <| qN <| zI ?_
 exact zR (.inr V) Tryz.results105 V (.of_eq (V)) (.bool _) Vv
theorem rLetSame0 (S : MS) : MCalls Tryz.prog 44 [getV, getV] S fun v σ' => v = .bool true ∧ σ' = S := by
 refine zM Tryz.func44 V Tryz.ntmps44 (zA V) ?_
 have hvs : ∀ S : MS, MCalls Tryz.prog 88 [encV noV, encV noV] S fun v σ' => v = .bool true ∧ σ' = S := fun S => (rSame_spec noV noV S).mono fun v σ' hv => ⟨hv.1.trans (by simp), hv.2⟩
 refine zB <| qR V <| qB V V V V V <| qB V V V V V <| qA V V V <| qN <| zB <| qR V <| qF V V V zJ6 <| qL V V V V ta3 V <| qF V V V zJ6 <| qL V V V V ta3 V <| qC V V V V V <| qM V V V <| qF V V V fo35_1 <| qL V V V V ta3 V <| qF V V V fo35_1 <| qL V V V V ta3 V ?_
 refine qC V V V V V <| qP V V V V <| qM V V V <| qF V V V fo35_2 <| qL V V V V ta3 V <| qF V V V fo35_2 <| qL V V V V ta3 V <| qC V V V V V <| qP V V V V <| qM V V V <| qF V V V zY6 <| qL V V V V ta22 V <| qF V V V zY6 <| qL V V V V ta22 V <| qC V V V V V ?_
 refine qP V V V V <| qM V V V <| qF V V V fo35_4 <| qL V V V V ta3 V <| qF V V V fo35_4 <| qL V V V V ta3 V <| qC V V V V V <| qP V V V V <| qM V V V <| qF V V V fo35_5 <| qL V V V V ta9 V <| qF V V V fo35_5 <| qL V V V V ta9 V <| qO V <| zS2 V V V V <| qP V V V V ?_
 refine qM V V V <| qF V V V fo35_6 <| qL V V V V ta27 V <| qF V V V fo35_6 <| qL V V V V ta27 V ?_
 refine qX V V V V co88 (hvs _) ?_
 refine qP V V V V <| qM V V V <| qF V V V fo35_7 <| qL V V V V ta28 V <| qF V V V fo35_7 <| qL V V V V ta28 V ?_
 refine qX V V V V co30 (rSameE13 [] (by simp) _) ?_
 refine qP V V V V <| qM V V V <| qF V V V fo35_8 <| qL V V V V ta29 V <| qF V V V fo35_8 <| qL V V V V ta29 V ?_
 refine qX V V V V co109 (rSums0 _) ?_
 refine qP V V V V <| qM V V V <| qF V V V zG5 <| qL V V V V ta33 V <| qF V V V zG5 <| qL V V V V ta33 V ?_
 refine qX V V V V co105 (rViews0 _) ?_
 refine qP V V V V <| qA V V V <| qN <| zI ?_
 exact zR (.inr V) Tryz.results44 V (.of_eq (V)) (.bool _) Vv
theorem _root_.zQ3 : type_of% @Tryz.underlying84 := @Tryz.underlying84
theorem known20_spec (S : MS) : MCalls Tryz.prog 34 [] S fun v σ' => v = .bool true ∧ σ' = S := by
 refine zM Tryz.func34 V Tryz.ntmps34 (zA V) ?_
 refine zB <| qR V <| qA V V V <| qN <| zB <| qR V ?_
 refine qX V V V V co36 (law20_tables_spec _) ?_
 refine qX V V V V co35 (pnew_spec _ tabs4 (by decide)) ?_
 rw [List.append_nil]
 refine qA V V V <| qN <| zB <| zB <| qR V <| qM V V V <| qO V <| op_ptrnil V Tryz.underlying77 V V V (.inl Vv) <| qN <| zL V (V) <| zQ <| zB <| qR V <| qO V <| zZ1 (y := getV) (zA1 V zA5 zm35 (.cons zJ6 sz3 V V (zA V) (.cons fo35_1 sz3 V V (zA V) (.cons fo35_5 sz9 V V (zA V) .nil))) (by kernel_rfl) Vv) ((.agg (.cons (.refl _) (.cons (.refl _) (.cons (.refl _) (.cons (.refl _) (.cons (.refl _) (.cons (.refl _) (.cons (.refl _) (.cons (.refl _) (.cons (.nil 1) (.cons (.nil 1) (.cons (.nil 5) (.cons (.nil 6) (.cons (.nil 2) (.cons (.nil 2) (.cons (.nil 3) (.nil)))))))))))))))))) ?_
 refine qO V <| zN0 V zm35 V V <| qO V <| zC0 V V V V sz35 V V (zA V) V <| qN <| zB <| qR V <| qM V V V <| qL V V V V ta35 V ?_
 refine qX V V V V co37 (put_spec _ tabs4 S.length (S.length + 1) [] ⟨by omega, show _ = some (po tabs4 (S.length + 1) 0) by exact zP6 rfl, show _ = some (qo []) by rw [getElem?_own]; rfl⟩ ((3 : Nat) : Int) ((100 : Nat) : Int) ((0 : Nat) : Int) ((0 : Nat) : Int) ((0 : Nat) : Int) [109, 49] noV [] [] [] [] getB getB_ne (by simp) get_bytes) ?_
 refine zU6 (S ++ [po tabs4 (S.length + 1) 1, qo [getB], .cells (getV).cells]) (by unfold addS; rw [zP5]; exact own_set0) ?_
 refine qA V V V <| qN <| zB <| qR V <| qM V V V <| qO V <| zZ1 (y := zeV) (zA1 V zA5 zm35 .nil (by kernel_rfl) Vv) ((.agg (.cons (.refl _) (.cons (.refl _) (.cons (.refl _) (.cons (.refl _) (.cons (.refl _) (.cons (.refl _) (.cons (.refl _) (.cons (.refl _) (.cons (.nil 1) (.cons (.nil 1) (.cons (.nil 5) (.cons (.nil 6) (.cons (.nil 2) (.cons (.nil 2) (.cons (.nil 3) (.nil)))))))))))))))))) ?_
 refine qX V V V V co37 (putN_spec _ tabs4 S.length (S.length + 1) [getB] ⟨by omega, show _ = some (po tabs4 (S.length + 1) 1) by exact zP6 rfl, show _ = some (qo [getB]) by rw [getElem?_own]; rfl⟩ 0 0 0 0 0 [] noV [] [] [] [] ze_bytes) ?_
 refine qA V V V <| qN <| zB <| qR V <| qM V V V ?_
 refine qX V V V V co40 (twice_spec _ tabs4 S.length (S.length + 1) [getB] ⟨by omega, show _ = some (po tabs4 (S.length + 1) 1) by exact zP6 rfl, show _ = some (qo [getB]) by rw [getElem?_own]; rfl⟩ 0 getB V (by simp)) ?_
 refine zU6 (S ++ [po tabs4 (S.length + 1) 2, qo [getB, getB], .cells (getV).cells]) (by unfold addS; rw [zP5]; exact own_set0) ?_
 refine qA V V V <| qN <| zB <| qR V <| qM V V V ?_
 refine qX V V V V co39 (qlen_spec _ tabs4 S.length (S.length + 1) [getB, getB] ⟨by omega, show _ = some (po tabs4 (S.length + 1) 2) by exact zP6 rfl, show _ = some (qo [getB, getB]) by rw [getElem?_own]; rfl⟩) ?_
 refine qA V V V <| qN <| zB <| qR V <| qM V V V ?_
 refine qX V V V V co38 (ptake_spec _ tabs4 S.length (S.length + 1) [getB, getB] ⟨by omega, show _ = some (po tabs4 (S.length + 1) 2) by exact zP6 rfl, show _ = some (qo [getB, getB]) by rw [getElem?_own]; rfl⟩ 0 getB V (by simp) ((3 : Nat) : Int) ((100 : Nat) : Int) ((0 : Nat) : Int) ((0 : Nat) : Int) ((0 : Nat) : Int) [109, 49] noV [] [] [] [] get_read) ?_
 refine zU6 (S ++ [po tabs4 (S.length + 5) 1, qo [getB, getB], .cells (getV).cells, .cells (getV).cells, .gone, qo [getB]]) (by unfold tkS; simp [po, qo, cutQ]; rfl) ?_
 refine qM V V V <| qO V <| zJ0 V V V <| qO V <| zJ0 V V V <| qO V <| zN0 V zm35 V V <| qO V <| zC0 V V V V sz35 V V (zA V) V <| qA V V V <| qN <| zB <| qR V <| qM V V V ?_
 refine qX V V V V co50 (lose_spec _ tabs4 S.length (S.length + 5) [getB] ⟨by omega, show _ = some (po tabs4 (S.length + 5) 1) by exact zP6 rfl, show _ = some (qo [getB]) by rw [getElem?_own]; rfl⟩ 0 getB V (by simp)) ?_
 refine zU6 (S ++ [po tabs4 (S.length + 8) 0, qo [getB, getB], .cells (getV).cells, .cells (getV).cells, .gone, qo [getB], .cells (getV).cells, .gone, qo []]) (by unfold tkS; simp [po, qo, cutQ]; rfl) ?_
 refine qA V V V <| qN <| zB <| qR V <| qM V V V ?_
 refine qX V V V V co38 (ptakeN_spec _ tabs4 S.length (S.length + 8) [] ⟨by omega, show _ = some (po tabs4 (S.length + 8) 0) by exact zP6 rfl, show _ = some (qo []) by rw [getElem?_own]; rfl⟩ 0 V (by simp)) ?_
 refine qM V V V <| qO V <| zJ0 V V V <| qO V <| zJ0 V V V <| qO V <| zN0 V zm35 V V <| qO V <| zC0 V V V V sz35 V V (zA V) V <| qA V V V <| qN <| zB <| qR V <| qM V V V <| qO V <| zF4 V zG0 V V (.inl Vv) <| qM V V V <| qM V V V <| qO V <| zR1 V V zL1 (by simp) ?_
 refine qX V V V V co18 (errIs_spec 10 _) ?_
 refine qP V V V V <| qM V V V <| qM V V V <| qO V <| zF4 V zG0 V V (.inl Vv) <| qP V V V V <| qM V V V <| qM V V V <| qC V V V V V <| qP V V V V <| qM V V V <| qM V V V <| qO V <| zF4 V zG0 V V (.inl Vv) <| qP V V V V <| qM V V V <| qL V V V V ta35 V ?_
 refine qL V V V V ta35 V ?_
 refine qX V V V V co44 (rLetSame0 _) ?_
 refine qP V V V V <| qM V V V <| qM V V V <| qO V <| zF4 V zG0 V V (.inl Vv) <| qP V V V V <| qM V V V <| qM V V V <| qO V <| zR1 V V zL1 (by simp) ?_
 refine qX V V V V co18 (errIs_spec 19 _) ?_
 refine qP V V V V <| qM V V V <| qM V V V ?_
 refine qX V V V V co41 (allE_spec _ tabs4 S.length (S.length + 8) ⟨by omega, show _ = some (po tabs4 (S.length + 8) 0) by exact zP6 rfl, show _ = some (qo []) by rw [getElem?_own]; rfl⟩) ?_
 refine qO V <| op_len_lst0 V zQ3 V <| qC V V V V V <| qP V V V V <| qA V V V <| qN <| zI ?_
 exact zR (.inr V) Tryz.results34 V (.of_eq (V)) (.bool _) Vv
def Qs (i : Nat) : List Bs := ((List.range i).drop (i - 400)).map askB
theorem Qs_len (i : Nat) : (Qs i).length = i - (i - 400) := by simp [Qs]
theorem Qs_lt {i : Nat} (h : i < 400) : Qs (i + 1) = Qs i ++ [askB i] := by
 unfold Qs
 rw [show i + 1 - 400 = 0 by omega, show i - 400 = 0 by omega, List.drop_zero, List.drop_zero, List.range_succ, List.map_append]
 rfl
theorem Qs_ge {i : Nat} (h : 400 ≤ i) : Qs (i + 1) = cutQ (Qs i) 0 ++ [askB i] := by
 unfold Qs cutQ
 rw [List.take_zero, List.nil_append, ← List.map_drop, List.drop_drop, show i - 400 + (0 + 1) = i + 1 - 400 by omega, List.range_succ, List.drop_append_of_le_length (by simp), List.map_append]
 rfl
theorem Qs_hd {i : Nat} (h : 0 < i) : (Qs i)[0]? = some (askB (i - 400)) := by
 unfold Qs
 rw [zH0, List.getElem?_drop, List.getElem?_range (by omega)]
 simp
theorem own_of_take {A S : MS} (h : A.take S.length = S) : ∃ M, A = S ++ M := ⟨A.drop S.length, by
 have := List.take_append_drop S.length A
 rw [h] at this
 exact this.symm⟩
theorem take_add {A S : MS} {t : List Tbl} {r : Nat} {Q : List Bs} (h : A.take S.length = S) (hr : S.length ≤ r) : (addS A t S.length r Q).take S.length = S := by
 unfold addS
 rw [List.take_set_of_le (Nat.le_refl _), List.take_set_of_le hr, h]
theorem take_tk {A S : MS} {t : List Tbl} {i : Nat} {Q : List Bs} (h : A.take S.length = S) (hl : S.length ≤ A.length) : (tkS A t S.length i Q).take S.length = S := by
 unfold tkS
 rw [List.take_append_of_le_length (by simpa using hl), List.take_set_of_le (Nat.le_refl _), h]
theorem take_own {S M : MS} : (S ++ M).take S.length = S := by simp
theorem putI (S M : MS) (r i : Nat) (h : PoAt (S ++ M) tabs4 S.length r (Qs i)) (hr : S.length ≤ r) (hi : i < 1000) : ∃ M' r', S.length ≤ r' ∧ PoAt (S ++ M') tabs4 S.length r' (Qs (i + 1)) ∧ MCalls Tryz.prog 37 [.ref S.length 0, askV i] (S ++ M) fun v σ' => v = .iface0 ∧ σ' = S ++ M' := by
 by_cases h4 : i < 400
 ·have hp := put_spec (S ++ M) tabs4 S.length r (Qs i) h ((10 : Nat) : Int) ((100 : Nat) : Int) ((0 : Nat) : Int) (i : Int) ((0 : Nat) : Int) [] noV [] [] [] [] (askB i) (askB_ne i) (by rw [Qs_len]; omega) (fun S => ask_bytes (by omega) S)
  rw [← Qs_lt h4] at hp
  have hA := h.add (Qs (i + 1))
  obtain ⟨M', hM⟩ := own_of_take (take_add (t := tabs4) (Q := Qs (i + 1)) (take_own (S := S) (M := M)) hr)
  rw [hM] at hp hA
  exact ⟨M', r, hr, hA, hp⟩
 ·have hp := putF_spec (S ++ M) tabs4 S.length r (Qs i) h ((10 : Nat) : Int) ((100 : Nat) : Int) ((0 : Nat) : Int) (i : Int) ((0 : Nat) : Int) [] noV [] [] [] [] (askB i) (askB (i - 400)) (askB_ne i) (by rw [Qs_len]; omega) (Qs_hd (by omega)) (fun S => ask_bytes (by omega) S)
  rw [← Qs_ge (by omega)] at hp
  have hA := ((h.sl [MObj.cells (askV i).cells]).tk (i := 0)).add (Qs (i + 1))
  have hrr : S.length ≤ ((S ++ M) ++ [MObj.cells (askV i).cells]).length + 1 := by simp; omega
  obtain ⟨M', hM⟩ := own_of_take (take_add (t := tabs4) (r := ((S ++ M) ++ [MObj.cells (askV i).cells]).length + 1) (Q := Qs (i + 1)) (take_tk (t := tabs4) (i := 0) (Q := Qs i) (A := (S ++ M) ++ [MObj.cells (askV i).cells]) (S := S) (by simp) (by simp)) hrr)
  rw [hM] at hp hA
  exact ⟨M', _, hrr, hA, hp⟩
theorem askV_one (i : Nat) : askV i = .agg (askV i).cells ∨ [askV i] = (askV i).cells := .inl rfl
theorem cl_askV (m i : Nat) : Cl m (askV i) := cl_encLt _ _ _ _ _ _ _ _ _ _ _ _
theorem ask_take {ids : List Nat} {i d : Nat} (h : ids[i]? = some d) : (ids.take (i + 1)).map askV = (ids.take i).map askV ++ [askV d] := by
 rw [List.take_add_one, h, Option.toList_some, List.map_append]
 rfl
theorem ask_len {ids : List Nat} {i d : Nat} (h : ids[i]? = some d) : (ids.take (i + 1)).length = (ids.take i).length + 1 := by
 rw [List.take_add_one, h, Option.toList_some, zG]
 rfl
theorem allA_spec (S : MS) (pid r : Nat) (ids : List Nat) (h : PoAt S tabs4 pid r (ids.map askB)) (ho : ∀ d ∈ ids, d < 18446744073709551616) (hl : ids.length ≤ 400) : MCalls Tryz.prog 41 [.ref pid 0] S fun v σ' => v = .lst none 15 (ids.map askV) ∧ σ' = S := by
 refine zM Tryz.func41 V Tryz.ntmps41 (zA V) ?_
 refine zB <| qR V <| qA V V V <| qN <| zB <| qR V <| qA V V V <| qN <| zB <| zB <| qR V <| qM V V V <| qO V <| zD0 V V V <| qF V V V zO3 <| qF V V V zZ3 <| qO V <| zP1 V V h.ob ta23 V <| qO V <| op_len_ow V zB0 V (zK1 h.row) <| qM V V V <| qN <| zX <| mwp_row0 3 35 15 V (Nat.le_refl _) V V ?_
 refine zD4 (α := Nat) [(0, _), (10, _), (11, _)] (fun i => [(3, .lst (some (S.length + 0)) 15 ((ids.take i).map askV)), (12, .int .i64 (i : Int))]) (fun i => [.row 35 15 (ids.take i).length]) (fun i => i ≤ ids.length) (fun i => ids.length - i) (0) (Nat.le_refl _) (.keep V (.keep V (.keep V (.nil)))) (.eq V (V) (.keep V (.nil))) (by omega) (V) ?_
 rintro i hi
 have hil : (ids.take i).length ≤ i := List.length_take_le _ _
 refine zB <| qR V <| qC V V V V V <| qN <| zB ?_
 refine zJ V (fun h13 => ?_) (fun h13 => ?_)
 ·
  rw [zF] at h13
  have hlt : i < ids.length := by simpa using h13
  obtain ⟨d, hs⟩ : ∃ q_, ids[i]? = some q_ := ⟨_, zC hlt⟩
  have hd := ho d (zW hs)
  have hqi : i < (ids.map askB).length := by simpa using hlt
  have hqx : (ids.map askB)[i]? = some (askB d) := by rw [zH0, hs]; rfl
  refine zQ <| zB <| zX <| zB <| qR V <| qO V <| op_indexAddr_ow V zB0 sz9 V V V hqi (zK1 h.row) <| qO V <| zD6 V V (zK1 h.row) ta9 (loadX hqx) <| qA V V V <| qN <| qR V <| qM V V V <| qM V V V <| qM V V V ?_
  refine qX V V V V co93 (pread_spec _ tabs4 pid r (ids.map askB) (h.sl _) ((10 : Nat) : Int) ((100 : Nat) : Int) ((0 : Nat) : Int) (d : Int) ((0 : Nat) : Int) [] noV [] [] [] [] (askB d) (fun S => ask_read hd S)) ?_
  refine qO V <| zJ1 V zQ3 el35 V V (by decide) (by decide) V V ?_
  refine qO V <| zN3 V zQ3 el35 V V V (by simp) (by simp; omega) (by simp; omega) V ?_
  refine qA V V V <| qN <| qR V <| qO V <| zT0 V V V V <| qM V V V <| qN ?_
  refine ⟨i + 1, _, by omega, by omega, by rw [ask_len hs]; rfl, .new trivial .nil, (.old V V (.old V V (.old V V (.nil)))), (.new' V (by rw [ask_take hs]; try rfl) (zC6 (by simp) (fun e => cl_askV _ e) (fun e => askV_one e)) (.new' V (zQ1 hlt (by simp only [maxLen]; omega)) (.int _ _) (.nil)))⟩
 ·
  rw [zF] at h13
  have hge : i = ids.length := by simp at h13; omega
  refine zM1 <| zB <| qR V <| qM V V V <| qA V V V <| qN <| zI ?_
  rw [hge, List.take_length]
  exact zR (.inr V) Tryz.results41 V (.view _ _ _) (zA7 (fun e => cl_askV _ e) (fun e => askV_one e)) Vv
theorem neq_self (m : Int) : intCmp .neq m m = some false := by simp [intCmp]
def cutI (l : List Nat) (j : Nat) : List Nat := l.take j ++ l.drop (j + 1)
theorem cutI_map (l : List Nat) (j : Nat) : cutQ (l.map askB) j = (cutI l j).map askB := by simp [cutQ, cutI, List.map_take, List.map_drop]
theorem cutI_len {l : List Nat} {j : Nat} (h : j < l.length) : (cutI l j).length = l.length - 1 := by simp [cutI]; omega
theorem cutI_lt {l : List Nat} {j i : Nat} (h : j < l.length) (hi : i < j) : (cutI l j)[i]? = l[i]? := by
 unfold cutI
 rw [List.getElem?_append_left (by simp; omega), List.getElem?_take, if_pos hi]
theorem cutI_ge {l : List Nat} {j i : Nat} (h : j < l.length) (hi : j ≤ i) : (cutI l j)[i]? = l[i + 1]? := by
 unfold cutI
 rw [List.getElem?_append_right (by simp; omega), List.getElem?_drop]
 congr 1
 simp
 omega
def idO (k j : Nat) (tw : Bool) : List Nat := List.range k ++ (if tw then [j] else [])
theorem idO_at {k j i : Nat} {tw : Bool} (h : i < k) : (idO k j tw)[i]? = some i := by
 unfold idO
 rw [List.getElem?_append_left (by simpa using h), List.getElem?_range h]
theorem idO_last {k j : Nat} : (idO k j true)[k]? = some j := by simp [idO]
theorem idO_len {k j : Nat} {tw : Bool} : (idO k j tw).length = k + (if tw then 1 else 0) := by cases tw <;> simp [idO]
theorem idO_mem {k j d : Nat} {tw : Bool} (h : d ∈ idO k j tw) (hj : j < k) : d < k := by
 unfold idO at h
 cases tw <;> simp at h <;> omega
theorem cutI_mem {l : List Nat} {j d : Nat} (h : d ∈ cutI l j) : d ∈ l := by
 rcases zV2.1 h with h | h
 ·exact List.mem_of_mem_take h
 ·exact List.mem_of_mem_drop h
theorem Qs_small {k : Nat} (h : k ≤ 400) : Qs k = (List.range k).map askB := by
 unfold Qs
 rw [show k - 400 = 0 by omega, List.drop_zero]
theorem PostOrders_true (n b : Nat) (hn : n < 256) (hb : b < 256) (S : MS) : MCalls Tryz.prog 9 [.int .u8 (n : Int), .int .u8 (b : Int), .bool true] S fun v σ' => v = .bool true ∧ σ' = S := by
 obtain ⟨k, hk0⟩ : ∃ k, n % 30 + 2 = k := ⟨_, rfl⟩
 have hkl : 2 ≤ k ∧ k ≤ 31 := by omega
 refine zM Tryz.func9 V Tryz.ntmps9 (zA V) ?_
 refine zB <| qR V <| qA V V V <| qN <| zB <| zB <| qR V ?_
 refine qX V V V V co34 (known20_spec _) ?_
 refine qO V <| zC1 V V <| qN <| zL V (V) <| zQ <| zB <| qR V ?_
 refine qX V V V V co36 (law20_tables_spec _) ?_
 refine qX V V V V co35 (pnew_spec _ tabs4 (by decide)) ?_
 rw [List.append_nil]
 refine qA V V V <| qN <| zB <| qR V <| qM V V V <| qO V <| op_rem V V V (by decide) ((show Int.tmod (n : Int) 30 = ((n % 30 : Nat) : Int) from V)) ?_
 refine qO V <| zX1 V zK3 zH1 V (i64_byte (show n % 30 < 256 by omega)) ?_
 refine qO V <| zT0 V V V (wadd (a := n % 30) (b := 2) (c := k) hk0 (by omega)) ?_
 refine qA V V V <| qN <| zB <| zB <| qR V <| qA V V V <| qN <| zX ?_
 refine zS1 (α := Nat × MS × Nat) [(1, _), (2, _), (7, _), (8, _)] (fun x => [(9, .int .i64 (x.1 : Int))]) (fun x => x.2.1) (fun x => x.1 ≤ k ∧ S.length ≤ x.2.2 ∧ PoAt (S ++ x.2.1) tabs4 S.length x.2.2 (Qs x.1)) (fun x => k - x.1) (⟨0, [po tabs4 (S.length + 1) 0, qo []], S.length + 1⟩) (.keep V (.keep V (.keep V (.keep V (.nil))))) (.keep V (.nil)) (⟨by omega, by dsimp only; omega, ⟨by dsimp only; omega, show _ = some (po tabs4 (S.length + 1) 0) by exact zP6 rfl, show _ = some (qo []) by rw [getElem?_own]; rfl⟩⟩) (V) ?_
 rintro ⟨i, M, r⟩ ⟨hi, hr, hP⟩
 dsimp only at hi hr hP ⊢
 refine zB <| zB <| qR V <| qM V V V <| qM V V V <| qC V V V V V <| qN ?_
 refine zJ V (fun h26 => ?_) (fun h26 => ?_)
 ·
  have hlt : i < k := by simp at h26; omega
  refine zQ <| zB <| zX <| zB ?_
  obtain ⟨M2, r2, hr2, hP2, hput⟩ := putI S M r i hP hr (by omega)
  refine qR V <| qM V V V <| qM V V V <| qO V <| zX1 V zH1 zZ0 V (zX2 (by omega)) ?_
  refine qO V <| zZ1 (y := askV i) (zA1 V zA5 zm35 (.cons zJ6 sz3 V V (zA V) (.cons fo35_1 sz3 V V (zA V) (.cons zY6 sz22 V V (zA V) .nil))) (by kernel_rfl) Vv) ((.agg (.cons (.refl _) (.cons (.refl _) (.cons (.refl _) (.cons (.refl _) (.cons (.refl _) (.cons (.refl _) (.cons (.refl _) (.cons (.refl _) (.cons (.nil 1) (.cons (.nil 1) (.cons (.nil 5) (.cons (.nil 6) (.cons (.nil 2) (.cons (.nil 2) (.cons (.nil 3) (.nil)))))))))))))))))) ?_
  refine qX V V V V co37 (hput) ?_
  refine qO V <| zF4 V zG0 V V (.inr Vv) <| qN <| zL V (V) <| zQ <| qR V <| qM V V V <| qO V <| zT0 V V V V <| qA V V V <| qN ?_
  refine ⟨⟨i + 1, M2, r2⟩, by dsimp only; omega, ⟨by dsimp only; omega, hr2, hP2⟩, rfl, (.keep V (.keep V (.keep V (.keep V (.nil))))), (.eq V (zQ1 (show i < 1000 by omega) (by decide)) (.nil))⟩
 ·
  have hge : i = k := by simp at h26; omega
  rw [hge] at hP
  obtain ⟨j, hj0⟩ : ∃ j, b % k = j := ⟨_, rfl⟩
  have hj : j < k := by rw [← hj0]; exact Nat.mod_lt _ (by omega)
  rw [Qs_small (by omega)] at hP
  have hm1 : (List.range k).map askB ++ [askB j] = (idO k j true).map askB := by simp [idO]
  have hjx : ((List.range k).map askB)[j]? = some (askB j) := by rw [zH0, List.getElem?_range hj]; rfl
  have htw := twice_spec (S ++ M) tabs4 S.length r _ hP j (askB j) hjx (by simp; omega)
  have hP1 := hP.add ((List.range k).map askB ++ [askB j])
  obtain ⟨M1, hM1⟩ := own_of_take (take_add (t := tabs4) (Q := (List.range k).map askB ++ [askB j]) (take_own (S := S) (M := M)) hr)
  rw [hM1] at htw hP1
  rw [hm1] at hP1
  have hjl : j < (idO k j true).length := by rw [idO_len]; omega
  have hjx2 : ((idO k j true).map askB)[j]? = some (askB j) := by rw [zH0, idO_at hj]; rfl
  have hT := (hP1.sl [MObj.cells (askV j).cells]).tk (i := j)
  have hPA := hT.sl [MObj.cells (askV j).cells]
  rw [cutI_map] at hPA
  have hl1 : (idO k j true).length ≤ 32 := by rw [idO_len]; simp; omega
  have hl2 : (cutI (idO k j true) j).length = k := by rw [cutI_len hjl, idO_len]; simp
  have hall := allA_spec (tkS ((S ++ M1) ++ [MObj.cells (askV j).cells]) tabs4 S.length j ((idO k j true).map askB) ++ [MObj.cells (askV j).cells]) S.length (((S ++ M1) ++ [MObj.cells (askV j).cells]).length + 1) (cutI (idO k j true) j) hPA (fun d hd => by have := idO_mem (cutI_mem hd) hj; omega) (by omega)
  obtain ⟨MB, hMB⟩ : ∃ MB, tkS ((S ++ M1) ++ [MObj.cells (askV j).cells]) tabs4 S.length j ((idO k j true).map askB) ++ [MObj.cells (askV j).cells] = S ++ MB := own_of_take (by rw [List.take_append_of_le_length (by have := hT.pl; omega)]; exact take_tk (by simp) (by simp))
  have hk : (cutI (idO k j true) j)[k - 1]? = some j := by rw [cutI_ge hjl (by omega), show k - 1 + 1 = k by omega, idO_last]
  refine zM1 <| zB <| qR V <| qM V V V <| qO V <| zX1 V zK3 zH1 V (i64_byte (show b < 256 by omega)) ?_
  refine qM V V V <| qO V <| op_rem V V V (by omega) ((nat_tmod b k).trans (by rw [hj0])) ?_
  refine qA V V V <| qN <| zB <| zB <| qR V <| qM V V V <| qM V V V <| qM V V V <| qM V V V ?_
  refine qX V V V V co40 (htw) ?_
  refine qO V <| zF4 V zG0 V V (.inr Vv) <| qP V V V V <| qN <| zL V (V) <| zQ <| zB <| qR V <| qM V V V <| qM V V V ?_
  refine qX V V V V co38 (ptake_spec (S ++ M1) tabs4 S.length r ((idO k j true).map askB) hP1 j (askB j) hjx2 (by simp; omega) ((10 : Nat) : Int) ((100 : Nat) : Int) ((0 : Nat) : Int) (j : Int) ((0 : Nat) : Int) [] noV [] [] [] [] (fun S => ask_read (by omega) S)) ?_
  refine qM V V V <| qO V <| zJ0 V V V <| qO V <| zJ0 V V V <| qO V <| zA4 V zm35 <| qO V <| zD2 V V V sz35 V V (zA V) <| qA V V V <| qN <| zB <| qR V <| qM V V V ?_
  refine qX V V V V co41 (hall) ?_
  refine qA V V V <| qN <| zB <| zB <| qR V <| qM V V V <| qO V <| zF4 V zG0 V V (.inr Vv) <| qM V V V <| qF V V V zY6 <| qO V <| zM6 V V ta22 V <| qM V V V <| qO V <| zX1 V zH1 zZ0 V (zX2 (by omega)) ?_
  refine qC V V V V (show intCmp .neq (j : Int) (j : Int) = some false by simp [intCmp]) ?_
  refine qP V V V V <| qM V V V <| qM V V V <| qM V V V <| qM V V V <| qE V V zQ3 V <| qM V V V <| qC V V V V (show intCmp .neq ((((cutI (idO k j true) j).map askV).length : Nat) : Int) (k : Int) = some false by rw [zF, hl2]; simp [intCmp]) ?_
  refine qM V V V <| qM V V V <| qM V V V <| qO V <| zT0 V V V (wsub (a := k) (b := 1) (c := k - 1) (by omega) (by omega)) ?_
  refine qO V <| zK V zQ3 sz35 (by decide) V V V (zE1 hk) ?_
  refine qO V <| zG1 V V zY6 <| qO V <| zO V V ta22 V <| qM V V V <| qO V <| zX1 V zH1 zZ0 V (zX2 (by omega)) ?_
  refine qC V V V V (show intCmp .neq (j : Int) (j : Int) = some false by simp [intCmp]) ?_
  refine qP V V V V <| qP V V V V <| qP V V V V <| qM V V V <| qM V V V <| qO V <| zC1 V V <| qM V V V <| qT V V V V <| qS V <| qP V V V V <| qP V V V V <| qN <| zL V (V) <| zQ <| zB <| zB ?_
  rw [hMB]
  refine qR V <| qA V V V <| qN <| zX ?_
  refine zS1 (α := Nat) [(8, _), (10, _), (13, _)] (fun i => [(14, .int .i64 (i : Int))]) (fun i => MB) (fun i => i ≤ k - 1) (fun i => k - 1 - i) (0) (.keep V (.keep V (.keep V (.nil)))) (.keep V (.nil)) (by omega) (V) ?_
  rintro i hi2
  refine zB <| zB <| qR V <| qM V V V <| qM V V V <| qO V <| zT0 V V V (wsub (a := k) (b := 1) (c := k - 1) (by omega) (by omega)) ?_
  refine qC V V V V V <| qN ?_
  refine zJ V (fun h97 => ?_) (fun h97 => ?_)
  ·
   have hlt2 : i < k - 1 := by simp at h97; omega
   refine zQ <| zB <| zX <| zB <| qR V <| qM V V V <| qA V V V <| qN <| zB <| zB <| qR V <| qM V V V <| qM V V V <| qC V V V V V <| qN ?_
   refine zJ V (fun h103 => ?_) (fun h103 => ?_)
   ·
    have hji : j ≤ i := by simp at h103; omega
    have hs : (cutI (idO k j true) j)[i]? = some (i + 1) := by rw [cutI_ge hjl hji, idO_at (by omega)]
    refine qR V <| qM V V V <| qO V <| zT0 V V V (wadd (a := i) (b := 1) V (by omega)) ?_
    refine qA V V V <| qN <| zB <| qR V <| qM V V V <| qM V V V <| qO V <| zK V zQ3 sz35 (by decide) V V V (zE1 hs) ?_
    refine qO V <| zG1 V V zY6 <| qO V <| zO V V ta22 V <| qM V V V <| qO V <| zX1 V zH1 zZ0 V (zX2 (by omega)) ?_
    refine qC V V V V (neq_self _) <| qN <| zL V (V) <| zQ <| qR V <| qM V V V <| qO V <| zT0 V V V V <| qA V V V <| qN ?_
    refine ⟨i + 1, by omega, by omega, rfl, (.keep V (.keep V (.keep V (.nil)))), (.eq V (zQ1 (show i < 100 by omega) (by decide)) (.nil))⟩
   ·
    have hji : i < j := by simp at h103; omega
    have hs : (cutI (idO k j true) j)[i]? = some i := by rw [cutI_lt hjl hji, idO_at (by omega)]
    refine zQ <| zB <| qR V <| qM V V V <| qM V V V <| qO V <| zK V zQ3 sz35 (by decide) V V V (zE1 hs) ?_
    refine qO V <| zG1 V V zY6 <| qO V <| zO V V ta22 V <| qM V V V <| qO V <| zX1 V zH1 zZ0 V (zX2 (by omega)) ?_
    refine qC V V V V (neq_self _) <| qN <| zL V (V) <| zQ <| qR V <| qM V V V <| qO V <| zT0 V V V V <| qA V V V <| qN ?_
    refine ⟨i + 1, by omega, by omega, rfl, (.keep V (.keep V (.keep V (.nil)))), (.eq V (zQ1 (show i < 100 by omega) (by decide)) (.nil))⟩
  ·
   refine zM1 <| zB <| qR V <| qA V V V <| qN <| zI ?_
   exact zR (.inr V) Tryz.results9 V (.refl _) (.bool _) Vv
theorem PostOrders_false (n b : Nat) (hn : n < 256) (hb : b < 256) (S : MS) : MCalls Tryz.prog 9 [.int .u8 (n : Int), .int .u8 (b : Int), .bool false] S fun v σ' => v = .bool true ∧ σ' = S := by
 obtain ⟨k, hk0⟩ : ∃ k, n % 30 + 2 = k := ⟨_, rfl⟩
 have hkl : 2 ≤ k ∧ k ≤ 31 := by omega
 refine zM Tryz.func9 V Tryz.ntmps9 (zA V) ?_
 refine zB <| qR V <| qA V V V <| qN <| zB <| zB <| qR V ?_
 refine qX V V V V co34 (known20_spec _) ?_
 refine qO V <| zC1 V V <| qN <| zL V (V) <| zQ <| zB <| qR V ?_
 refine qX V V V V co36 (law20_tables_spec _) ?_
 refine qX V V V V co35 (pnew_spec _ tabs4 (by decide)) ?_
 rw [List.append_nil]
 refine qA V V V <| qN <| zB <| qR V <| qM V V V <| qO V <| op_rem V V V (by decide) ((show Int.tmod (n : Int) 30 = ((n % 30 : Nat) : Int) from V)) ?_
 refine qO V <| zX1 V zK3 zH1 V (i64_byte (show n % 30 < 256 by omega)) ?_
 refine qO V <| zT0 V V V (wadd (a := n % 30) (b := 2) (c := k) hk0 (by omega)) ?_
 refine qA V V V <| qN <| zB <| zB <| qR V <| qA V V V <| qN <| zX ?_
 refine zS1 (α := Nat × MS × Nat) [(1, _), (2, _), (7, _), (8, _)] (fun x => [(9, .int .i64 (x.1 : Int))]) (fun x => x.2.1) (fun x => x.1 ≤ k ∧ S.length ≤ x.2.2 ∧ PoAt (S ++ x.2.1) tabs4 S.length x.2.2 (Qs x.1)) (fun x => k - x.1) (⟨0, [po tabs4 (S.length + 1) 0, qo []], S.length + 1⟩) (.keep V (.keep V (.keep V (.keep V (.nil))))) (.keep V (.nil)) (⟨by omega, by dsimp only; omega, ⟨by dsimp only; omega, show _ = some (po tabs4 (S.length + 1) 0) by exact zP6 rfl, show _ = some (qo []) by rw [getElem?_own]; rfl⟩⟩) (V) ?_
 rintro ⟨i, M, r⟩ ⟨hi, hr, hP⟩
 dsimp only at hi hr hP ⊢
 refine zB <| zB <| qR V <| qM V V V <| qM V V V <| qC V V V V V <| qN ?_
 refine zJ V (fun h26 => ?_) (fun h26 => ?_)
 ·
  have hlt : i < k := by simp at h26; omega
  refine zQ <| zB <| zX <| zB ?_
  obtain ⟨M2, r2, hr2, hP2, hput⟩ := putI S M r i hP hr (by omega)
  refine qR V <| qM V V V <| qM V V V <| qO V <| zX1 V zH1 zZ0 V (zX2 (by omega)) ?_
  refine qO V <| zZ1 (y := askV i) (zA1 V zA5 zm35 (.cons zJ6 sz3 V V (zA V) (.cons fo35_1 sz3 V V (zA V) (.cons zY6 sz22 V V (zA V) .nil))) (by kernel_rfl) Vv) ((.agg (.cons (.refl _) (.cons (.refl _) (.cons (.refl _) (.cons (.refl _) (.cons (.refl _) (.cons (.refl _) (.cons (.refl _) (.cons (.refl _) (.cons (.nil 1) (.cons (.nil 1) (.cons (.nil 5) (.cons (.nil 6) (.cons (.nil 2) (.cons (.nil 2) (.cons (.nil 3) (.nil)))))))))))))))))) ?_
  refine qX V V V V co37 (hput) ?_
  refine qO V <| zF4 V zG0 V V (.inr Vv) <| qN <| zL V (V) <| zQ <| qR V <| qM V V V <| qO V <| zT0 V V V V <| qA V V V <| qN ?_
  refine ⟨⟨i + 1, M2, r2⟩, by dsimp only; omega, ⟨by dsimp only; omega, hr2, hP2⟩, rfl, (.keep V (.keep V (.keep V (.keep V (.nil))))), (.eq V (zQ1 (show i < 1000 by omega) (by decide)) (.nil))⟩
 ·
  have hge : i = k := by simp at h26; omega
  rw [hge] at hP
  obtain ⟨j, hj0⟩ : ∃ j, b % k = j := ⟨_, rfl⟩
  have hj : j < k := by rw [← hj0]; exact Nat.mod_lt _ (by omega)
  rw [Qs_small (by omega)] at hP
  have hm1 : (List.range k).map askB = (idO k j false).map askB := by simp [idO]
  rw [hm1] at hP
  have hP1 := hP
  have hjl : j < (idO k j false).length := by rw [idO_len]; omega
  have hjx2 : ((idO k j false).map askB)[j]? = some (askB j) := by rw [zH0, idO_at hj]; rfl
  have hT := (hP1.sl [MObj.cells (askV j).cells]).tk (i := j)
  have hPA := hT.sl [MObj.cells (askV j).cells]
  rw [cutI_map] at hPA
  have hl1 : (idO k j false).length ≤ 32 := by rw [idO_len]; simp; omega
  have hl2 : (cutI (idO k j false) j).length = k - 1 := by rw [cutI_len hjl, idO_len]; simp
  have hall := allA_spec (tkS ((S ++ M) ++ [MObj.cells (askV j).cells]) tabs4 S.length j ((idO k j false).map askB) ++ [MObj.cells (askV j).cells]) S.length (((S ++ M) ++ [MObj.cells (askV j).cells]).length + 1) (cutI (idO k j false) j) hPA (fun d hd => by have := idO_mem (cutI_mem hd) hj; omega) (by omega)
  obtain ⟨MB, hMB⟩ : ∃ MB, tkS ((S ++ M) ++ [MObj.cells (askV j).cells]) tabs4 S.length j ((idO k j false).map askB) ++ [MObj.cells (askV j).cells] = S ++ MB := own_of_take (by rw [List.take_append_of_le_length (by have := hT.pl; omega)]; exact take_tk (by simp) (by simp))
  refine zM1 <| zB <| qR V <| qM V V V <| qO V <| zX1 V zK3 zH1 V (i64_byte (show b < 256 by omega)) ?_
  refine qM V V V <| qO V <| op_rem V V V (by omega) ((nat_tmod b k).trans (by rw [hj0])) ?_
  refine qA V V V <| qN <| zB <| zB <| qR V <| qM V V V <| qM V V V <| qT V V V V <| qP V V V V <| qN <| zL V (V) <| zQ <| zB <| qR V <| qM V V V <| qM V V V ?_
  refine qX V V V V co38 (ptake_spec (S ++ M) tabs4 S.length r ((idO k j false).map askB) hP1 j (askB j) hjx2 (by simp; omega) ((10 : Nat) : Int) ((100 : Nat) : Int) ((0 : Nat) : Int) (j : Int) ((0 : Nat) : Int) [] noV [] [] [] [] (fun S => ask_read (by omega) S)) ?_
  refine qM V V V <| qO V <| zJ0 V V V <| qO V <| zJ0 V V V <| qO V <| zA4 V zm35 <| qO V <| zD2 V V V sz35 V V (zA V) <| qA V V V <| qN <| zB <| qR V <| qM V V V ?_
  refine qX V V V V co41 (hall) ?_
  refine qA V V V <| qN <| zB <| zB <| qR V <| qM V V V <| qO V <| zF4 V zG0 V V (.inr Vv) <| qM V V V <| qF V V V zY6 <| qO V <| zM6 V V ta22 V <| qM V V V <| qO V <| zX1 V zH1 zZ0 V (zX2 (by omega)) ?_
  refine qC V V V V (show intCmp .neq (j : Int) (j : Int) = some false by simp [intCmp]) ?_
  refine qP V V V V <| qM V V V <| qM V V V <| qM V V V <| qT V V V V <| qT V V V V <| qT V V V V <| qS V <| qS V <| qS V <| qP V V V V <| qP V V V V <| qM V V V <| qM V V V ?_
  refine qO V <| zC1 V V <| qM V V V <| qM V V V <| qE V V zQ3 V <| qM V V V <| qO V <| zT0 V V V (wsub (a := k) (b := 1) (c := k - 1) (by omega) (by omega)) ?_
  refine qC V V V V (show intCmp .neq ((((cutI (idO k j false) j).map askV).length : Nat) : Int) ((k - 1 : Nat) : Int) = some false by rw [zF, hl2]; simp [intCmp]) ?_
  refine qP V V V V <| qP V V V V <| qN <| zL V (V) <| zQ <| zB <| zB ?_
  rw [hMB]
  refine qR V <| qA V V V <| qN <| zX ?_
  refine zS1 (α := Nat) [(8, _), (10, _), (13, _)] (fun i => [(14, .int .i64 (i : Int))]) (fun i => MB) (fun i => i ≤ k - 1) (fun i => k - 1 - i) (0) (.keep V (.keep V (.keep V (.nil)))) (.keep V (.nil)) (by omega) (V) ?_
  rintro i hi2
  refine zB <| zB <| qR V <| qM V V V <| qM V V V <| qO V <| zT0 V V V (wsub (a := k) (b := 1) (c := k - 1) (by omega) (by omega)) ?_
  refine qC V V V V V <| qN ?_
  refine zJ V (fun h97 => ?_) (fun h97 => ?_)
  ·
   have hlt2 : i < k - 1 := by simp at h97; omega
   refine zQ <| zB <| zX <| zB <| qR V <| qM V V V <| qA V V V <| qN <| zB <| zB <| qR V <| qM V V V <| qM V V V <| qC V V V V V <| qN ?_
   refine zJ V (fun h103 => ?_) (fun h103 => ?_)
   ·
    have hji : j ≤ i := by simp at h103; omega
    have hs : (cutI (idO k j false) j)[i]? = some (i + 1) := by rw [cutI_ge hjl hji, idO_at (by omega)]
    refine qR V <| qM V V V <| qO V <| zT0 V V V (wadd (a := i) (b := 1) V (by omega)) ?_
    refine qA V V V <| qN <| zB <| qR V <| qM V V V <| qM V V V <| qO V <| zK V zQ3 sz35 (by decide) V V V (zE1 hs) ?_
    refine qO V <| zG1 V V zY6 <| qO V <| zO V V ta22 V <| qM V V V <| qO V <| zX1 V zH1 zZ0 V (zX2 (by omega)) ?_
    refine qC V V V V (neq_self _) <| qN <| zL V (V) <| zQ <| qR V <| qM V V V <| qO V <| zT0 V V V V <| qA V V V <| qN ?_
    refine ⟨i + 1, by omega, by omega, rfl, (.keep V (.keep V (.keep V (.nil)))), (.eq V (zQ1 (show i < 100 by omega) (by decide)) (.nil))⟩
   ·
    have hji : i < j := by simp at h103; omega
    have hs : (cutI (idO k j false) j)[i]? = some i := by rw [cutI_lt hjl hji, idO_at (by omega)]
    refine zQ <| zB <| qR V <| qM V V V <| qM V V V <| qO V <| zK V zQ3 sz35 (by decide) V V V (zE1 hs) ?_
    refine qO V <| zG1 V V zY6 <| qO V <| zO V V ta22 V <| qM V V V <| qO V <| zX1 V zH1 zZ0 V (zX2 (by omega)) ?_
    refine qC V V V V (neq_self _) <| qN <| zL V (V) <| zQ <| qR V <| qM V V V <| qO V <| zT0 V V V V <| qA V V V <| qN ?_
    refine ⟨i + 1, by omega, by omega, rfl, (.keep V (.keep V (.keep V (.nil)))), (.eq V (zQ1 (show i < 100 by omega) (by decide)) (.nil))⟩
  ·
   refine zM1 <| zB <| qR V <| qA V V V <| qN <| zI ?_
   exact zR (.inr V) Tryz.results9 V (.refl _) (.bool _) Vv
theorem PostOrders_spec (n b : Nat) (tw : Bool) (hn : n < 256) (hb : b < 256) (S : MS) : MCalls Tryz.prog 9 [.int .u8 (n : Int), .int .u8 (b : Int), .bool tw] S fun v σ' => v = .bool true ∧ σ' = S := by
 cases tw with
 | true => exact PostOrders_true n b hn hb S
 | false => exact PostOrders_false n b hn hb S
end Go.Proofs.YtciimaabeabkdaaGreatDoor
