/-
  Texts on which the proof of PostFull leans: part 7.
-/
import Derived.Test.YtciimaabeabkdaaGreatDoorPostFullF
set_option linter.unusedVariables false
set_option linter.unusedSimpArgs false
set_option maxRecDepth 20000
set_option maxHeartbeats 8000000
namespace Go.Proofs.YtciimaabeabkdaaGreatDoor
open Go Go.MV Go.RowKit
def po (t : List Tbl) (r n : Nat) : MObj := .cells [.lst none 4 (t.map encTb), .ow r 1 n]
def qo (Q : List Bs) : MObj := .orow 9 1 Q.length (Q.map encX)
theorem po_cl {t : List Tbl} {r n d : Nat} (h : r < d) : (po t r n).cl d := fun x hx => by
 simp only [List.mem_cons, List.not_mem_nil, or_false] at hx
 rcases hx with rfl | rfl
 ·exact cl_tbs _ _
 ·exact .ow _ _ _ h
theorem qo_cl {Q : List Bs} {d : Nat} : (qo Q).cl d := fun x hx => by
 obtain ⟨y, _, rfl⟩ := List.mem_map.1 hx
 exact .str _
structure PoAt (S : MS) (t : List Tbl) (pid r : Nat) (Q : List Bs) : Prop where
 ne : pid ≠ r
 ob : S[pid]? = some (po t r Q.length)
 row : S[r]? = some (qo Q)
theorem PoAt.pl {S : MS} {t : List Tbl} {pid r : Nat} {Q : List Bs} (h : PoAt S t pid r Q) : pid < S.length := (zD.1 h.ob).1
theorem PoAt.rl {S : MS} {t : List Tbl} {pid r : Nat} {Q : List Bs} (h : PoAt S t pid r Q) : r < S.length := (zD.1 h.row).1
theorem PoAt.sl {S : MS} {t : List Tbl} {pid r : Nat} {Q : List Bs} (h : PoAt S t pid r Q) (L : MS) : PoAt (S ++ L) t pid r Q := ⟨h.ne, zI1 h.ob, zI1 h.row⟩
def cutQ (Q : List Bs) (i : Nat) : List Bs := Q.take i ++ Q.drop (i + 1)
theorem cutQ_len {Q : List Bs} {i : Nat} (h : i < Q.length) : (cutQ Q i).length = Q.length - 1 := by simp [cutQ]; omega
def tkS (S : MS) (t : List Tbl) (pid i : Nat) (Q : List Bs) : MS := S.set pid (po t (S.length + 1) (cutQ Q i).length) ++ [.gone, qo (cutQ Q i)]
theorem cls_tk {S : MS} {t : List Tbl} {pid r i : Nat} {Q : List Bs} (hcl : ClS S) (h : PoAt S t pid r Q) : ClS (tkS S t pid i Q) := by
 have h1 : ClS (S ++ [.gone, qo (cutQ Q i)]) := hcl.app fun o ho => by
  simp only [List.mem_cons, List.not_mem_nil, or_false] at ho
  rcases ho with rfl | rfl
  ·trivial
  ·exact qo_cl
 have h2 := h1.set (id := pid) (o := po t (S.length + 1) (cutQ Q i).length) (po_cl (by simp))
 rw [List.set_append_left _ _ h.pl] at h2
 exact h2
theorem bq_at {P : Program} {fn : Func} {S : MS} {R : MV → MS → Prop} {env : Env} {e : Exit} {σ : MS} (T : MS) (h : σ = T) (k : BodyQ P fn S R e env T) : BodyQ P fn S R e env σ := h ▸ k
theorem loadX {Q : List Bs} {i : Nat} {x : Bs} (h : Q[i]? = some x) : loadMV none (Q.map encX) (i * 1) = some (.str (bs x)) := by
 have : (Q.map encX)[i]? = some (.str (bs x)) := by rw [zI0, h]; rfl
 simp [loadMV, this]
theorem qhas_spec (S : MS) (t : List Tbl) (pid r : Nat) (Q : List Bs) (h : PoAt S t pid r Q) (i : Int) (hl : Q.length < 9223372036854775808) : MCalls Tryz.prog 92 [.ref pid 1, .int .i64 i] S fun v σ' => v = .bool (decide (0 ≤ i) && decide (i < Q.length)) ∧ σ' = S := by
 refine zL Tryz.func92 V Tryz.ntmps92 (zA V) ?_
 refine zT0 fun _ hcl => ?_
 rw [List.append_nil] at hcl
 refine zB <| qR V <| qA V V V <| qN <| zB <| qR V <| qM V V V <| qC V V V V V <| qM V V V ?_
 refine zZ (fun h7 => ?_) (fun h7 => ?_)
 ·
  refine qM V V V <| qM V V V <| qO V <| zD0 V V V <| qF V V V zX3 <| qO V <| zJ1 V V h.ob ta23 V <| qO V <| op_len_ow V zB0 V (zI1 h.row) <| qC V V V V V <| qP V V V V <| qA V V V <| qN <| zI ?_
  exact zY3 (.inr V) Tryz.results92 V (.refl _) (.bool _) (by simp) hcl ⟨by congr 1; (first | (simp_all; done) | (simp_all; omega)), rfl⟩
 ·
  refine qT V V V V <| qS V <| qS V <| qS V <| qP V V V V <| qA V V V <| qN <| zI ?_
  exact zY3 (.inr V) Tryz.results92 V (.refl _) (.bool _) (by simp) hcl ⟨by congr 1; (first | (simp_all; done) | (simp_all; omega)), rfl⟩
theorem qlen_spec (S : MS) (t : List Tbl) (pid r : Nat) (Q : List Bs) (h : PoAt S t pid r Q) : MCalls Tryz.prog 39 [.ref pid 0] S fun v σ' => v = .int .i64 (Q.length : Int) ∧ σ' = S := by
 refine zL Tryz.func39 V Tryz.ntmps39 (zA V) ?_
 refine zT0 fun _ hcl => ?_
 rw [List.append_nil] at hcl
 refine zB <| qR V <| qA V V V <| qN <| zB <| qR V <| qM V V V <| qO V <| zD0 V V V <| qF V V V zK3 <| qF V V V zX3 <| qO V <| zJ1 V V h.ob ta23 V <| qO V <| op_len_ow V zB0 V (zI1 h.row) <| qA V V V <| qN <| zI ?_
 exact zY3 (.inr V) Tryz.results39 V (.refl _) (.int _ _) (by simp) hcl Vv
theorem qtake_spec (S : MS) (t : List Tbl) (pid r : Nat) (Q : List Bs) (h : PoAt S t pid r Q) (i : Nat) (x : Bs) (hi : Q[i]? = some x) (hl : Q.length ≤ 1000000) : MCalls Tryz.prog 91 [.ref pid 1, .int .i64 (i : Int)] S fun v σ' => v = .str (bs x) ∧ σ' = tkS S t pid i Q := by
 refine zL Tryz.func91 V Tryz.ntmps91 (zA V) ?_
 refine zT0 fun _ hcl => ?_
 rw [List.append_nil] at hcl
 have hil := (zD.1 hi).1
 have hcn := cutQ_len hil
 have hqo : qo (cutQ Q i) = .orow 9 1 (Q.length - 1) ((Q.take i ++ Q.drop (i + 1)).map encX) := by unfold qo; rw [hcn]; rfl
 have hck : MCalls Tryz.prog 155 [.ow r 1 Q.length] (S ++ []) fun v σ' => v = .ow S.length 1 Q.length ∧ σ' = S ++ [qo Q] := by
  rw [List.append_nil]
  exact cloneO_spec S r Q.length Q h.row rfl (by omega) hl
 refine zB <| qR V <| qA V V V <| qN <| zB <| qR V <| qM V V V <| qO V <| zD0 V V V <| qF V V V zX3 <| qO V <| zJ1 V V h.ob ta23 V <| qM V V V <| qO V <| op_indexAddr_ow V zB0 sz9 V V V hil (zI1 h.row) <| qO V <| op_load_orf V V (zI1 h.row) ta9 (loadX hi) <| qA V V V <| qN <| zB <| qR V <| qM V V V <| qM V V V ?_
 refine qO V <| zD0 V V V <| qF V V V zX3 <| qO V <| zJ1 V V h.ob ta23 V ?_
 refine qX V V V V co155 (hck) ?_
 refine qM V V V <| qM V V V <| qO V <| zY0 V V V (wadd (a := i) (b := 1) V (by omega)) ?_
 refine qX V V V V co154 (deleteO_spec (S ++ [qo Q]) S.length Q.length i Q (by simp [qo]) V hil hl) ?_
 refine zP6 (S ++ [.gone, qo (cutQ Q i)]) (by rw [hqo]; simp) ?_
 refine qO V <| zD0 V V V <| qF V V V zX3 <| qO V <| zG6 V V V h.ob sz23 V V (zA V) <| qN <| zB <| qR V <| qM V V V <| qA V V V <| qN <| zI <| bq_at (tkS S t pid i Q ++ []) (by rw [List.append_nil]; unfold tkS; rw [hcn]; simp [setMany, po]; rfl) ?_
 exact zY3 (.inr V) Tryz.results91 V (.refl _) (.str _) (by simp [tkS]) (cls_tk hcl h) Vv
def addS (S : MS) (t : List Tbl) (pid r : Nat) (Q : List Bs) : MS := (S.set r (qo Q)).set pid (po t r Q.length)
theorem addS_len {S : MS} {t : List Tbl} {pid r : Nat} {Q : List Bs} : (addS S t pid r Q).length = S.length := by simp [addS]
theorem cls_add {S : MS} {t : List Tbl} {pid r : Nat} {Q Q' : List Bs} (hcl : ClS S) (h : PoAt S t pid r Q) : ClS (addS S t pid r Q') := (hcl.set qo_cl).set (po_cl (by simpa using h.rl))
theorem PoAt.add {S : MS} {t : List Tbl} {pid r : Nat} {Q : List Bs} (h : PoAt S t pid r Q) (Q' : List Bs) : PoAt (addS S t pid r Q') t pid r Q' := ⟨h.ne, by unfold addS; rw [List.getElem?_set_self (by simpa using h.pl)], by unfold addS; rw [List.getElem?_set_ne h.ne, List.getElem?_set_self h.rl]⟩
theorem PoAt.tk {S : MS} {t : List Tbl} {pid r i : Nat} {Q : List Bs} (h : PoAt S t pid r Q) : PoAt (tkS S t pid i Q) t pid (S.length + 1) (cutQ Q i) := by
 refine ⟨by have := h.pl; omega, ?_, ?_⟩
 ·unfold tkS
  rw [List.getElem?_append_left (by simpa using h.pl), List.getElem?_set_self h.pl]
 ·unfold tkS
  rw [List.getElem?_append_right (by simp)]
  simp
theorem put_spec (S : MS) (t : List Tbl) (pid r : Nat) (Q : List Bs) (h : PoAt S t pid r Q) (k f to i c : Int) (key : Bs) (x : Val) (es : List Ety) (su : List Su) (mm : List Mm) (cp : List Cp) (b : Bs) (hb : b ≠ []) (hl : Q.length < 400) (hB : ∀ S : MS, MCalls Tryz.prog 15 [.lst none 4 (t.map encTb), encLt k f to i c key x es su mm cp] S fun v σ' => v = .str (bs b) ∧ σ' = S) : MCalls Tryz.prog 37 [.ref pid 0, encLt k f to i c key x es su mm cp] S fun v σ' => v = .iface0 ∧ σ' = addS S t pid r (Q ++ [b]) := by
 obtain ⟨n, m, s, q, w⟩ := x
 have hob2 : (S.set r (qo (Q ++ [b])))[pid]? = some (po t r Q.length) := by rw [List.getElem?_set_ne h.ne.symm]; exact h.ob
 refine zL Tryz.func37 V Tryz.ntmps37 (zA V) ?_
 refine zT0 fun _ hcl => ?_
 rw [List.append_nil] at hcl
 refine zB <| qR V <| qB V V V V V <| qA V V V <| qN <| zB ?_
 refine zW0 [] [_] mo (by decide) V V V V ?_
 refine dO V V V (zY V V Vv) <| dO V V V (zD0 V V V Vv) <| dO V V V (zE V V fo165_0 Vv) <| dO V V V (zJ1 V V h.ob ta39 V Vv) <| dO V V V (zO0 V V V ta35 V Vv) <| zU V V (.cons (zB1 V V V co15 (hB _)) .nil) <| dO V V V (zD1 V V Vv) <| zP0 <| zB <| zB <| qR V <| qM V V V <| qO V <| zS2 V V V V <| qN <| zM V (by simp [hb]) ?_
 refine zS <| zB <| zB <| qR V <| qM V V V <| qO V <| zD0 V V V <| qF V V V zK3 <| qF V V V zX3 <| qO V <| zJ1 V V h.ob ta23 V <| qO V <| op_len_ow V zB0 V (zI1 h.row) <| qC V V V V (show intCmp .geq ((Q.length : Nat) : Int) 400 = some false by simp [intCmp]; omega) ?_
 refine qN <| zM V (V) <| zS <| zB <| qR V <| qM V V V <| qM V V V <| qO V <| zD0 V V V <| qF V V V zK3 <| qF V V V zX3 <| qO V <| zJ1 V V h.ob ta23 V <| qM V V V <| qO V <| zH1 V zB0 el9 V V (by decide) (by decide) V V ?_
 refine qO V <| op_append_ow V zB0 el9 V V (zI1 h.row) (by simp; omega) (by simp; omega) ?_
 refine zP6 ((S.set r (qo (Q ++ [b]))) ++ [MObj.cells (encLt k f to i c key (.mk n m s q w) es su mm cp).cells]) (by rw [List.set_append_left _ _ h.rl]; simp [qo, flat]; rfl) ?_
 refine qO V <| zD0 V V V <| qF V V V zK3 <| qF V V V zX3 <| qO V <| zG6 V V V hob2 sz23 V V (zA V) <| qN <| zB <| qR V <| qA V V V <| qN <| zI <| bq_at (addS S t pid r (Q ++ [b]) ++ [MObj.cells (encLt k f to i c key (.mk n m s q w) es su mm cp).cells]) (by unfold addS; simp [setMany, po]; rfl) ?_
 exact zY3 (.inr V) Tryz.results37 V (.refl _) .iface0 (by simp [addS_len]) (cls_add hcl h) Vv
theorem putF_spec (S : MS) (t : List Tbl) (pid r : Nat) (Q : List Bs) (h : PoAt S t pid r Q) (k f to i c : Int) (key : Bs) (x : Val) (es : List Ety) (su : List Su) (mm : List Mm) (cp : List Cp) (b b0 : Bs) (hb : b ≠ []) (hl : Q.length = 400) (hb0 : Q[0]? = some b0) (hB : ∀ S : MS, MCalls Tryz.prog 15 [.lst none 4 (t.map encTb), encLt k f to i c key x es su mm cp] S fun v σ' => v = .str (bs b) ∧ σ' = S) : MCalls Tryz.prog 37 [.ref pid 0, encLt k f to i c key x es su mm cp] S fun v σ' => v = .iface0 ∧ σ' = addS (tkS (S ++ [MObj.cells (encLt k f to i c key x es su mm cp).cells]) t pid 0 Q) t pid ((S ++ [MObj.cells (encLt k f to i c key x es su mm cp).cells]).length + 1) (cutQ Q 0 ++ [b]) := by
 have hql : (cutQ Q 0).length = 399 := by rw [cutQ_len (by omega), hl]
 obtain ⟨n, m, s, q, w⟩ := x
 refine zL Tryz.func37 V Tryz.ntmps37 (zA V) ?_
 refine zT0 fun _ hcl => ?_
 rw [List.append_nil] at hcl
 have hx := h.sl [MObj.cells (encLt k f to i c key (.mk n m s q w) es su mm cp).cells]
 have h2 := hx.tk (i := 0)
 have hcl2 : ClS (S ++ [MObj.cells (encLt k f to i c key (.mk n m s q w) es su mm cp).cells]) := hcl.app fun o ho => by
  simp only [List.mem_cons, List.not_mem_nil, or_false] at ho
  subst ho
  exact fun y hy => by
   have hc := cl_encLt (S ++ [MObj.cells (encLt k f to i c key (.mk n m s q w) es su mm cp).cells]).length k f to i c key (.mk n m s q w) es su mm cp
   cases hc with | agg _ hc => exact hc y hy
 have hob2 : ((tkS (S ++ [MObj.cells (encLt k f to i c key (.mk n m s q w) es su mm cp).cells]) t pid 0 Q).set ((S ++ [MObj.cells (encLt k f to i c key (.mk n m s q w) es su mm cp).cells]).length + 1) (qo (cutQ Q 0 ++ [b])))[pid]? = some (po t ((S ++ [MObj.cells (encLt k f to i c key (.mk n m s q w) es su mm cp).cells]).length + 1) (cutQ Q 0).length) := by rw [List.getElem?_set_ne h2.ne.symm]; exact h2.ob
 refine zB <| qR V <| qB V V V V V <| qA V V V <| qN <| zB ?_
 refine zW0 [] [_] mo (by decide) V V V V ?_
 refine dO V V V (zY V V Vv) <| dO V V V (zD0 V V V Vv) <| dO V V V (zE V V fo165_0 Vv) <| dO V V V (zJ1 V V h.ob ta39 V Vv) <| dO V V V (zO0 V V V ta35 V Vv) <| zU V V (.cons (zB1 V V V co15 (hB _)) .nil) <| dO V V V (zD1 V V Vv) <| zP0 <| zB <| zB <| qR V <| qM V V V <| qO V <| zS2 V V V V <| qN <| zM V (by simp [hb]) ?_
 refine zS <| zB <| zB <| qR V <| qM V V V <| qO V <| zD0 V V V <| qF V V V zK3 <| qF V V V zX3 <| qO V <| zJ1 V V h.ob ta23 V <| qO V <| op_len_ow V zB0 V (zI1 h.row) <| qC V V V V (show intCmp .geq ((Q.length : Nat) : Int) 400 = some true by simp [intCmp]; omega) ?_
 refine qN <| zT V (V) <| qR V <| qM V V V <| qO V <| zD0 V V V <| qF V V V zK3 ?_
 refine qX V V V V co91 (qtake_spec _ t pid r Q hx 0 b0 hb0 (by omega)) ?_
 refine qN <| zB ?_
 rw [← List.append_nil (tkS (S ++ [MObj.cells (encLt k f to i c key (.mk n m s q w) es su mm cp).cells]) t pid 0 Q)]
 refine qR V <| qM V V V <| qM V V V <| qO V <| zD0 V V V <| qF V V V zK3 <| qF V V V zX3 <| qO V <| zJ1 V V h2.ob ta23 V <| qM V V V <| qO V <| zH1 V zB0 el9 V V (by decide) (by decide) V V ?_
 refine qO V <| op_append_ow V zB0 el9 V V (zI1 h2.row) (by simp [hql]) (by simp [hql]) ?_
 refine zP6 ((tkS (S ++ [MObj.cells (encLt k f to i c key (.mk n m s q w) es su mm cp).cells]) t pid 0 Q).set ((S ++ [MObj.cells (encLt k f to i c key (.mk n m s q w) es su mm cp).cells]).length + 1) (qo (cutQ Q 0 ++ [b])) ++ []) (by rw [List.append_nil]; simp [qo, flat]; rfl) ?_
 refine qO V <| zD0 V V V <| qF V V V zK3 <| qF V V V zX3 <| qO V <| zG6 V V V hob2 sz23 V V (zA V) <| qN <| zB <| qR V <| qA V V V <| qN <| zI <| bq_at (addS (tkS (S ++ [MObj.cells (encLt k f to i c key (.mk n m s q w) es su mm cp).cells]) t pid 0 Q) t pid ((S ++ [MObj.cells (encLt k f to i c key (.mk n m s q w) es su mm cp).cells]).length + 1) (cutQ Q 0 ++ [b]) ++ []) (by unfold addS; simp [setMany, po]; rfl) ?_
 exact zY3 (.inr V) Tryz.results37 V (.refl _) .iface0 (by rw [addS_len]; simp [tkS]; omega) (cls_add (cls_tk hcl2 hx) h2) ⟨rfl, by simp⟩
theorem putN_spec (S : MS) (t : List Tbl) (pid r : Nat) (Q : List Bs) (h : PoAt S t pid r Q) (k f to i c : Int) (key : Bs) (x : Val) (es : List Ety) (su : List Su) (mm : List Mm) (cp : List Cp) (hB : ∀ S : MS, MCalls Tryz.prog 15 [.lst none 4 (t.map encTb), encLt k f to i c key x es su mm cp] S fun v σ' => v = .str (bs []) ∧ σ' = S) : MCalls Tryz.prog 37 [.ref pid 0, encLt k f to i c key x es su mm cp] S fun v σ' => v = .iface 49 (.int .i64 10) ∧ σ' = S := by
 obtain ⟨n, m, s, q, w⟩ := x
 refine zL Tryz.func37 V Tryz.ntmps37 (zA V) ?_
 refine zT0 fun _ hcl => ?_
 rw [List.append_nil] at hcl
 refine zB <| qR V <| qB V V V V V <| qA V V V <| qN <| zB ?_
 refine zW0 [] [_] mo (by decide) V V V V ?_
 refine dO V V V (zY V V Vv) <| dO V V V (zD0 V V V Vv) <| dO V V V (zE V V fo165_0 Vv) <| dO V V V (zJ1 V V h.ob ta39 V Vv) <| dO V V V (zO0 V V V ta35 V Vv) <| zU V V (.cons (zB1 V V V co15 (hB _)) .nil) <| dO V V V (zD1 V V Vv) <| zP0 <| zB <| zB <| qR V <| qM V V V <| qO V <| zS2 V V V V <| qN <| zT V (by simp) ?_
 refine zB <| qR V <| qO V <| zN1 V V zF1 (by simp) ?_
 refine qA V V V <| qN <| zI ?_
 exact zY3 (.inr V) Tryz.results37 V (.refl _) (.iface _ _ (.int _ _)) (by simp) hcl Vv
theorem lose_spec (S : MS) (t : List Tbl) (pid r : Nat) (Q : List Bs) (h : PoAt S t pid r Q) (i : Nat) (x : Bs) (hi : Q[i]? = some x) (hl : Q.length ≤ 1000000) : MCalls Tryz.prog 50 [.ref pid 0, .int .i64 (i : Int)] S fun v σ' => v = .iface0 ∧ σ' = tkS S t pid i Q := by
 refine zL Tryz.func50 V Tryz.ntmps50 (zA V) ?_
 refine zT0 fun _ hcl => ?_
 rw [List.append_nil] at hcl
 have hil := (zD.1 hi).1
 have hh := qhas_spec S t pid r Q h (i : Int) (by omega)
 rw [show (decide ((0 : Int) ≤ (i : Int)) && decide ((i : Int) < (Q.length : Int))) = true by simp; omega] at hh
 have ht := qtake_spec S t pid r Q h i x hi hl
 rw [← List.append_nil S] at hh
 refine zB <| qR V <| qA V V V <| qN <| zB <| zB <| qR V <| qM V V V <| qO V <| zD0 V V V <| qF V V V zK3 <| qM V V V ?_
 refine qX V V V V co92 (hh) ?_
 refine qO V <| zC1 V V <| qN <| zM V (V) <| zS <| zB ?_
 rw [List.append_nil]
 refine qR V <| qM V V V <| qO V <| zD0 V V V <| qF V V V zK3 <| qM V V V ?_
 refine qX V V V V co91 (ht) ?_
 refine qN <| zB ?_
 rw [← List.append_nil (tkS S t pid i Q)]
 refine qR V <| qA V V V <| qN <| zI ?_
 exact zY3 (.inr V) Tryz.results50 V (.refl _) .iface0 (by simp [tkS]) (cls_tk hcl h) ⟨rfl, by simp⟩
theorem ret_cellTF {P : Program} {fn : Func} {S S' : MS} {R : MV → MS → Prop} {env : Env} {e : Exit} {a t id off t2 : Nat} {l : List MV} {ta : Option Nat} {x y x2 : MV} (he : e = .normal ∨ e = .ret) (hres : fn.results = #[.cell a t, .tmp t2]) (ha : get env a = some (.ref id off)) (hl : S'[id]? = some (.cells l)) (ht : tyAgg P t = some ta) (hm : loadMV ta l off = some x) (hx2 : get env t2 = some x2) (hs : Sub x y) (hc : Cl S'.length y) (hc2 : Cl S'.length x2) (hlen : S.length ≤ S'.length) (hS : ClS S') (hR : R (.tup [y, x2]) S') : BodyQ P fn S R e env (S' ++ []) := by
 refine ⟨he, [x, x2], .tup [y, x2], S', [], ?_, .tup (.cons hs (.cons (.refl _) .nil)), .tup _ (fun z hz => ?_), rfl, hlen, .inr hS, hR⟩
 ·rw [hres]
  exact .cell ha (by rw [List.append_nil]; exact hl) ht hm (.tmp hx2 .nil)
 ·simp only [List.mem_cons, List.not_mem_nil, or_false] at hz
  rcases hz with rfl | rfl
  ·exact hc
  ·exact hc2
theorem pread_spec (S : MS) (t : List Tbl) (pid r : Nat) (Q : List Bs) (h : PoAt S t pid r Q) (k f to i c : Int) (key : Bs) (y : Val) (es : List Ety) (su : List Su) (mm : List Mm) (cp : List Cp) (b : Bs) (hR : ∀ S : MS, MCalls Tryz.prog 16 [.lst none 4 (t.map encTb), .str (bs b)] S fun v σ' => v = .tup [encLt k f to i c key y es su mm cp, .iface0] ∧ σ' = S) : MCalls Tryz.prog 93 [.ref pid 0, .str (bs b)] S fun v σ' => v = encLt k f to i c key y es su mm cp ∧ σ' = S := by
 obtain ⟨n, m, s, q, w⟩ := y
 refine zL Tryz.func93 V Tryz.ntmps93 (zA V) ?_
 refine zT0 fun _ hcl => ?_
 rw [List.append_nil] at hcl
 refine zB <| qR V <| qO V <| zN0 V zm35 V V <| qN <| zB <| qR V <| qM V V V <| qO V <| zD0 V V V <| qF V V V fo165_0 <| qO V <| zJ1 V V h.ob ta39 V <| qM V V V ?_
 refine qX V V V V co16 (hR _) ?_
 refine qM V V V <| qO V <| zK0 V V V <| qO V <| zK0 V V V <| qO V <| zN0 V zm35 V V <| qO V <| zC0 V V V V sz35 V V (zA V) V <| qA V V V <| qN <| zB <| qR V <| qL V V V V ta35 V <| qO V <| zC0 V V V V sz35 V V (zA V) V <| qN <| zI ?_
 exact zJ2 (.inr V) Tryz.results93 V (k := 0) V ta35 V (.refl _) (cl_encLt _ _ _ _ _ _ _ (.mk _ _ _ _ _) _ _ _ _) Vv
theorem ptake_spec (S : MS) (t : List Tbl) (pid r : Nat) (Q : List Bs) (h : PoAt S t pid r Q) (j : Nat) (b : Bs) (hj : Q[j]? = some b) (hl : Q.length ≤ 1000000) (k f to i c : Int) (key : Bs) (y : Val) (es : List Ety) (su : List Su) (mm : List Mm) (cp : List Cp) (hR : ∀ S : MS, MCalls Tryz.prog 16 [.lst none 4 (t.map encTb), .str (bs b)] S fun v σ' => v = .tup [encLt k f to i c key y es su mm cp, .iface0] ∧ σ' = S) : MCalls Tryz.prog 38 [.ref pid 0, .int .i64 (j : Int)] S fun v σ' => v = .tup [encLt k f to i c key y es su mm cp, .iface0] ∧ σ' = tkS (S ++ [MObj.cells (encLt k f to i c key y es su mm cp).cells]) t pid j Q := by
 have hil := (zD.1 hj).1
 have hh := fun M : MS => qhas_spec (S ++ M) t pid r Q (h.sl M) (j : Int) (by omega)
 rw [show (decide ((0 : Int) ≤ (j : Int)) && decide ((j : Int) < (Q.length : Int))) = true by simp; omega] at hh
 have hx := h.sl [MObj.cells [.int .i64 0, .int .i64 0, .int .i64 0, .int .u64 0, .int .i64 0, .str (bs []), .int .u64 0, .int .u64 0, .lst0, .lst0, .lst0, .lst0, .lst0, .lst0, .lst0]]
 have ht := qtake_spec (S ++ [MObj.cells [.int .i64 0, .int .i64 0, .int .i64 0, .int .u64 0, .int .i64 0, .str (bs []), .int .u64 0, .int .u64 0, .lst0, .lst0, .lst0, .lst0, .lst0, .lst0, .lst0]]) t pid r Q hx j b hj hl
 have h2 := hx.tk (i := j)
 have hre := pread_spec (tkS (S ++ [MObj.cells [.int .i64 0, .int .i64 0, .int .i64 0, .int .u64 0, .int .i64 0, .str (bs []), .int .u64 0, .int .u64 0, .lst0, .lst0, .lst0, .lst0, .lst0, .lst0, .lst0]]) t pid j Q) t pid ((S ++ [MObj.cells [.int .i64 0, .int .i64 0, .int .i64 0, .int .u64 0, .int .i64 0, .str (bs []), .int .u64 0, .int .u64 0, .lst0, .lst0, .lst0, .lst0, .lst0, .lst0, .lst0]]).length + 1) _ h2 k f to i c key y es su mm cp b hR
 obtain ⟨n, m, s, q, w⟩ := y
 refine zL Tryz.func38 V Tryz.ntmps38 (zA V) ?_
 refine zT0 fun _ hcl => ?_
 rw [List.append_nil] at hcl
 have hpl := h.pl
 have hcz : (tkS (S ++ [MObj.cells [.int .i64 0, .int .i64 0, .int .i64 0, .int .u64 0, .int .i64 0, .str (bs []), .int .u64 0, .int .u64 0, .lst0, .lst0, .lst0, .lst0, .lst0, .lst0, .lst0]]) t pid j Q)[S.length]? = some (.cells [.int .i64 0, .int .i64 0, .int .i64 0, .int .u64 0, .int .i64 0, .str (bs []), .int .u64 0, .int .u64 0, .lst0, .lst0, .lst0, .lst0, .lst0, .lst0, .lst0]) := by
  unfold tkS
  rw [List.getElem?_append_left (by simp), List.getElem?_set_ne (by omega)]
  simp
 have hEq : (tkS (S ++ [MObj.cells [.int .i64 0, .int .i64 0, .int .i64 0, .int .u64 0, .int .i64 0, .str (bs []), .int .u64 0, .int .u64 0, .lst0, .lst0, .lst0, .lst0, .lst0, .lst0, .lst0]]) t pid j Q).set S.length (.cells (encLt k f to i c key (.mk n m s q w) es su mm cp).cells) = tkS (S ++ [MObj.cells (encLt k f to i c key (.mk n m s q w) es su mm cp).cells]) t pid j Q := by
  unfold tkS
  rw [List.set_append_left _ _ (by simp), List.set_comm _ _ (by omega), List.set_append_right _ _ (Nat.le_refl _)]
  simp
 have hcl2 : ClS (S ++ [MObj.cells (encLt k f to i c key (.mk n m s q w) es su mm cp).cells]) := hcl.app fun o ho => by
  simp only [List.mem_cons, List.not_mem_nil, or_false] at ho
  subst ho
  exact fun y hy => by
   have hc := cl_encLt (S ++ [MObj.cells (encLt k f to i c key (.mk n m s q w) es su mm cp).cells]).length k f to i c key (.mk n m s q w) es su mm cp
   cases hc with | agg _ hc => exact hc y hy
 refine zB <| qR V <| qO V <| zN0 V zm35 V V <| qA V V V <| qN <| zB <| zB <| qR V <| qM V V V <| qO V <| zD0 V V V <| qF V V V zK3 <| qM V V V ?_
 refine qX V V V V co92 (hh _) ?_
 refine qO V <| zC1 V V <| qN <| zM V (V) <| zS <| zB <| qR V <| qM V V V <| qM V V V <| qO V <| zD0 V V V <| qF V V V zK3 <| qM V V V ?_
 refine qX V V V V co91 (ht) ?_
 refine qX V V V V co93 (hre) ?_
 rw [← List.append_nil (tkS (S ++ [MObj.cells [.int .i64 0, .int .i64 0, .int .i64 0, .int .u64 0, .int .i64 0, .str (bs []), .int .u64 0, .int .u64 0, .lst0, .lst0, .lst0, .lst0, .lst0, .lst0, .lst0]]) t pid j Q)]
 refine qO V <| zG6 V V V hcz sz35 V V (zA V) <| qA V V V <| qN <| zI <| bq_at (tkS (S ++ [MObj.cells (encLt k f to i c key (.mk n m s q w) es su mm cp).cells]) t pid j Q ++ []) (by rw [← hEq]; rfl) ?_
 exact ret_cellTF (.inr V) Tryz.results38 V (id := S.length) (by unfold tkS; rw [List.getElem?_append_left (by simp), List.getElem?_set_ne (by omega)]; simp; rfl) ta35 V V (.refl _) (cl_encLt _ _ _ _ _ _ _ (.mk _ _ _ _ _) _ _ _ _) .iface0 (by simp [tkS]; omega) (cls_tk hcl2 (h.sl _)) ⟨rfl, by simp⟩
theorem ptakeN_spec (S : MS) (t : List Tbl) (pid r : Nat) (Q : List Bs) (h : PoAt S t pid r Q) (j : Int) (hj : (decide (0 ≤ j) && decide (j < Q.length)) = false) (hl : Q.length ≤ 1000000) : MCalls Tryz.prog 38 [.ref pid 0, .int .i64 j] S fun v σ' => v = .tup [encLt 0 0 0 0 0 [] noV [] [] [] [], .iface 49 (.int .i64 19)] ∧ σ' = S := by
 refine zL Tryz.func38 V Tryz.ntmps38 (zA V) ?_
 refine zT0 fun _ hcl => ?_
 rw [List.append_nil] at hcl
 have hh := fun M : MS => qhas_spec (S ++ M) t pid r Q (h.sl M) j (by omega)
 rw [hj] at hh
 refine zB <| qR V <| qO V <| zN0 V zm35 V V <| qA V V V <| qN <| zB <| zB <| qR V <| qM V V V <| qO V <| zD0 V V V <| qF V V V zK3 <| qM V V V ?_
 refine qX V V V V co92 (hh _) ?_
 refine qO V <| zC1 V V <| qN <| zT V (V) <| zB <| qR V <| qO V <| zZ0 V zT5 zm35 .nil (by kernel_rfl) ?_
 refine qO V <| zN1 V V zF1 (by simp) ?_
 refine qO V <| zC0 V V V V sz35 V V (zA V) V <| qA V V V <| qN <| zI ?_
 exact ret_cellT (y := encLt 0 0 0 0 0 [] noV [] [] [] []) (.inr V) Tryz.results38 V (k := 0) V ta35 V V (.agg (.cons (.refl _) (.cons (.refl _) (.cons (.refl _) (.cons (.refl _) (.cons (.refl _) (.cons (.refl _) (.cons (.refl _) (.cons (.refl _) (.cons (.nil 1) (.cons (.nil 1) (.cons (.nil 5) (.cons (.nil 6) (.cons (.nil 2) (.cons (.nil 2) (.cons (.nil 3) (.nil))))))))))))))))) (cl_encLt _ _ _ _ _ _ _ _ _ _ _ _) (.iface _ _ (.int _ _)) Vv
theorem twiceF_spec (S : MS) (t : List Tbl) (pid r : Nat) (Q : List Bs) (h : PoAt S t pid r Q) (j : Int) (hj : (decide (0 ≤ j) && decide (j < Q.length)) = true) (hl : Q.length = 400) : MCalls Tryz.prog 40 [.ref pid 0, .int .i64 j] S fun v σ' => v = .iface 49 (.int .i64 15) ∧ σ' = S := by
 refine zL Tryz.func40 V Tryz.ntmps40 (zA V) ?_
 refine zT0 fun _ hcl => ?_
 rw [List.append_nil] at hcl
 have hh := fun M : MS => qhas_spec (S ++ M) t pid r Q (h.sl M) j (by omega)
 rw [hj] at hh
 refine zB <| qR V <| qA V V V <| qN <| zB <| zX <| zB <| qR V <| qM V V V <| qO V <| zD0 V V V <| qF V V V zK3 <| qM V V V ?_
 refine qX V V V V co92 (hh _) ?_
 refine qO V <| zC1 V V <| qA V V V <| qN <| zM V (V) <| zB <| qR V <| qM V V V <| qO V <| zD0 V V V <| qF V V V zK3 <| qF V V V zX3 <| qO V <| zJ1 V V h.ob ta23 V <| qO V <| op_len_ow V zB0 V (zI1 h.row) <| qC V V V V (show intCmp .geq ((Q.length : Nat) : Int) 400 = some true by simp [intCmp]; omega) ?_
 refine qA V V V <| qN <| zT V (V) <| zB <| qR V <| qO V <| zN1 V V zF1 (by simp) ?_
 refine qA V V V <| qN <| zI ?_
 exact zY3 (.inr V) Tryz.results40 V (.refl _) (.iface _ _ (.int _ _)) (by simp) hcl Vv
theorem twice_spec (S : MS) (t : List Tbl) (pid r : Nat) (Q : List Bs) (h : PoAt S t pid r Q) (j : Nat) (b : Bs) (hj0 : Q[j]? = some b) (hl : Q.length < 400) : MCalls Tryz.prog 40 [.ref pid 0, .int .i64 (j : Int)] S fun v σ' => v = .iface0 ∧ σ' = addS S t pid r (Q ++ [b]) := by
 refine zL Tryz.func40 V Tryz.ntmps40 (zA V) ?_
 refine zT0 fun _ hcl => ?_
 rw [List.append_nil] at hcl
 have hil := (zD.1 hj0).1
 have hj : (decide ((0 : Int) ≤ (j : Int)) && decide ((j : Int) < (Q.length : Int))) = true := by simp; omega
 have hh := fun M : MS => qhas_spec (S ++ M) t pid r Q (h.sl M) (j : Int) (by omega)
 rw [hj] at hh
 have hob2 : (S.set r (qo (Q ++ [b])))[pid]? = some (po t r Q.length) := by rw [List.getElem?_set_ne h.ne.symm]; exact h.ob
 refine zB <| qR V <| qA V V V <| qN <| zB <| zX <| zB <| qR V <| qM V V V <| qO V <| zD0 V V V <| qF V V V zK3 <| qM V V V ?_
 refine qX V V V V co92 (hh _) ?_
 refine qO V <| zC1 V V <| qA V V V <| qN <| zM V (V) <| zB <| qR V <| qM V V V <| qO V <| zD0 V V V <| qF V V V zK3 <| qF V V V zX3 <| qO V <| zJ1 V V h.ob ta23 V <| qO V <| op_len_ow V zB0 V (zI1 h.row) <| qC V V V V (show intCmp .geq ((Q.length : Nat) : Int) 400 = some false by simp [intCmp]; omega) ?_
 refine qA V V V <| qN <| zM V (V) <| zS <| zB ?_
 refine zW0 [12, 13, 14, 15, 19] [_, S ++ [], S ++ [], S ++ [], S.set r (qo (Q ++ [b])) ++ [], addS S t pid r (Q ++ [b]) ++ []] mo (by decide) V V V V ?_
 refine zU V V (.cons (zY V V Vv) (.cons (zY V V Vv) (.cons (zY V V Vv) (.cons (zY V V Vv) (.cons (zY V V Vv) (.nil)))))) <| zU V V (.cons (zY V V Vv) (.cons (zY V V Vv) (.cons (zY V V Vv) (.cons (zY V V Vv) (.cons (zY V V Vv) (.nil)))))) <| zU V V (.cons (zD0 V V V Vv) (.cons (zD0 V V V Vv) (.cons (zD0 V V V Vv) (.cons (zD0 V V V Vv) (.cons (zD0 V V V Vv) (.nil)))))) <| zU V V (.cons (zE V V zK3 Vv) (.cons (zE V V zK3 Vv) (.cons (zE V V zK3 Vv) (.cons (zE V V zK3 Vv) (.cons (zE V V zK3 Vv) (.nil)))))) <| zU V V (.cons (zE V V zX3 Vv) (.cons (zE V V zX3 Vv) (.cons (zE V V zX3 Vv) (.cons (zE V V zX3 Vv) (.cons (zE V V zX3 Vv) (.nil)))))) <| zU V V (.cons (zJ1 V V h.ob ta23 V Vv) (.cons (zJ1 V V h.ob ta23 V Vv) (.cons (zJ1 V V h.ob ta23 V Vv) (.cons (zJ1 V V h.ob ta23 V Vv) (.nil))))) <| zU V V (.cons (zY V V Vv) (.cons (zY V V Vv) (.cons (zY V V Vv) (.cons (zY V V Vv) (.cons (zY V V Vv) (.nil)))))) <| zU V V (.cons (zD0 V V V Vv) (.cons (zD0 V V V Vv) (.cons (zD0 V V V Vv) (.cons (zD0 V V V Vv) (.cons (zD0 V V V Vv) (.nil)))))) <| zU V V (.cons (zE V V zK3 Vv) (.cons (zE V V zK3 Vv) (.cons (zE V V zK3 Vv) (.cons (zE V V zK3 Vv) (.cons (zE V V zK3 Vv) (.nil)))))) <| zU V V (.cons (zE V V zX3 Vv) (.cons (zE V V zX3 Vv) (.cons (zE V V zX3 Vv) (.cons (zE V V zX3 Vv) (.cons (zE V V zX3 Vv) (.nil)))))) <| dO V V V (zJ1 V V h.ob ta23 V Vv) <| dO V V V (zY V V Vv) <| zA1 V V V V (op_indexAddr_ow V zB0 sz9 V V V hil (zI1 h.row) Vv) <| zA1 V V V V (op_load_orf V V (zI1 h.row) ta9 (loadX hj0) Vv) <| zA1 V V V V (zH1 V zB0 el9 V V (by decide) (by decide) V V Vv) ?_
 refine zA1 V V V V (op_append_ow V zB0 el9 V V (zI1 h.row) (by simp; omega) (by simp; omega) ⟨rfl, by rw [List.set_append_left _ _ h.rl]; simp [qo, flat]; rfl⟩) ?_
 refine zU V V (.cons (zD0 V V V Vv) (.cons (zD0 V V V Vv) (.nil))) <| zU V V (.cons (zE V V zK3 Vv) (.cons (zE V V zK3 Vv) (.nil))) <| dO V V V (zE V V zX3 Vv) <| zA1 V V V V (zG6 V V V hob2 sz23 V V (zA V) ⟨rfl, by unfold addS; simp [setMany, po]; rfl⟩) ?_
 refine zP0 <| zB <| qR V <| qA V V V <| qN <| zI ?_
 exact zY3 (.inr V) Tryz.results40 V (.refl _) .iface0 (by rw [addS_len]; exact Nat.le_refl _) (cls_add hcl h) Vv
theorem allE_spec (S : MS) (t : List Tbl) (pid r : Nat) (h : PoAt S t pid r []) : MCalls Tryz.prog 41 [.ref pid 0] S fun v σ' => v = .lst0 ∧ σ' = S := by
 refine zL Tryz.func41 V Tryz.ntmps41 (zA V) ?_
 refine zT0 fun _ hcl => ?_
 rw [List.append_nil] at hcl
 refine zB <| qR V <| qA V V V <| qN <| zB <| qR V <| qA V V V <| qN <| zB <| zB <| qR V <| qM V V V <| qO V <| zD0 V V V <| qF V V V zK3 <| qF V V V zX3 <| qO V <| zJ1 V V h.ob ta23 V <| qO V <| op_len_ow V zB0 V (zI1 h.row) <| qM V V V <| qN <| zX ?_
 refine zT1 (α := Nat) [(0, _), (10, _), (11, _)] (fun i => [(3, .lst0), (12, .int .i64 (i : Int))]) (fun i => []) (fun i => i = 0) (fun i => 0 - i) (0) (.keep V (.keep V (.keep V (.nil)))) (.keep V (.keep V (.nil))) (V) (V) ?_
 rintro i hi
 subst hi
 refine zB <| qR V <| qC V V V V (V) <| qN <| zB <| zM V (V) <| zO1 <| zB <| qR V <| qM V V V <| qA V V V <| qN <| zI ?_
 exact zY3 (.inr V) Tryz.results41 V (.refl _) .lst0 (by simp) hcl Vv
theorem pnew0_spec (S : MS) (t : List Tbl) (ht : t.length ≤ 1000) : MCalls Tryz.prog 35 [.lst none 4 (t.map encTb)] S fun v σ' => v = .ref S.length 0 ∧ σ' = S ++ [.cells [.lst none 4 (t.map encTb), .lst0]] := by
 refine zL Tryz.func35 V Tryz.ntmps35 (zA V) ?_
 refine zT0 fun _ hcl => ?_
 rw [List.append_nil] at hcl
 have hcn : ClS (S ++ [.cells [.lst none 4 (t.map encTb), .lst0]]) := hcl.app fun o ho => by
  simp only [List.mem_cons, List.not_mem_nil, or_false] at ho
  subst ho
  intro y hy
  simp only [List.mem_cons, List.not_mem_nil, or_false] at hy
  rcases hy with rfl | rfl
  ·exact cl_tbs _ _
  ·exact .lst0
 refine zB <| qR V <| qA V V V <| qN <| zB <| qR V <| qM V V V ?_
 refine qX V V V V co83 (tbClone_spec t ht _) ?_
 refine qO V <| zZ0 V Tryz.underlying165 zm165 (.cons fo165_0 sz39 V V (zA V) .nil) (by kernel_rfl) ?_
 refine qB V V V V V <| qA V V V <| qN <| zI ?_
 exact ret_tmpT (.inr V) Tryz.results35 V (.refl _) (.ref _ _ (by simp)) (by simp) hcn Vv
theorem pnew_spec (S : MS) (t : List Tbl) (ht : t.length ≤ 1000) : MCalls Tryz.prog 35 [.lst none 4 (t.map encTb)] S fun v σ' => v = .ref S.length 0 ∧ σ' = S ++ [po t (S.length + 1) 0, qo []] := by
 refine (MCalls.cellow S.length 1 9 1 (pnew0_spec S t ht) (l := [.lst none 4 (t.map encTb), .lst0]) (by simp) V).mono fun v σ' hv => ⟨hv.1, ?_⟩
 rw [hv.2]
 simp [po, qo]
def askB (i : Nat) : Bs := plL false 10 100 0 i 0 []
def getB : Bs := plL true 3 100 0 0 0 [109, 49]
abbrev askV (i : Nat) : MV := encLt ((10 : Nat) : Int) ((100 : Nat) : Int) ((0 : Nat) : Int) (i : Int) ((0 : Nat) : Int) [] noV [] [] [] []
abbrev getV : MV := encLt ((3 : Nat) : Int) ((100 : Nat) : Int) ((0 : Nat) : Int) ((0 : Nat) : Int) ((0 : Nat) : Int) [109, 49] noV [] [] [] []
abbrev zeV : MV := encLt 0 0 0 0 0 [] noV [] [] [] []
abbrev T4 : MV := .lst none 4 (tabs4.map encTb)
theorem view0 : viewF [] [] = true := by decide
theorem ents0 (b : Bool) : entsF tabs4 [] b = true := by simp [entsF, rowF]
theorem row0 : rowF tabs4 (([] : List Su).map Prod.fst) = true := by simp [rowF]
theorem ask_is : letF tabs4 ((10 : Nat) : Int) ((100 : Nat) : Int) ((0 : Nat) : Int) ((0 : Nat) : Int) [] noV [] [] [] [] = true := by
 unfold letF
 rw [right4, view0, ents0, row0]
 simp [placeF, bareF_, ofP]
theorem get_is : letF tabs4 ((3 : Nat) : Int) ((100 : Nat) : Int) ((0 : Nat) : Int) ((0 : Nat) : Int) [109, 49] noV [] [] [] [] = true := by
 unfold letF
 rw [right4, view0, ents0, row0]
 simp [placeF, bareF_, ofP, show findP tabs4 [109, 49] = some tM from find_m1]
theorem ze_is : letF tabs4 0 0 0 0 [] noV [] [] [] [] = false := by
 unfold letF
 simp
theorem ask_bytes {i : Nat} (hi : i < 18446744073709551616) (S : MS) : MCalls Tryz.prog 15 [T4, askV i] S fun v σ' => v = .str (bs (askB i)) ∧ σ' = S := by
 have hs : ∀ x ∈ [10, 100, 0, i, 0], x < 18446744073709551616 := by simp; omega
 refine bytesY_spec tabs4 10 100 0 i 0 [] noV [] [] [] [] (plB false 10 100 0 i 0 []) plB_ne (by have := plB_len (pk := false) (key := []) hs (by simp); omega) (fun S => ?_) (fun id tt => letW_writes _ id tt 10 100 0 i 0 [] noV [] [] [] [] hs false (by decide) (by simp)) S
 have := letIs_spec tabs4 ((10 : Nat) : Int) ((100 : Nat) : Int) ((0 : Nat) : Int) (i : Int) ((0 : Nat) : Int) [] noV [] [] [] [] okV_no (by simp) (by simp) S
 rw [ask_is] at this
 exact this
theorem get_bytes (S : MS) : MCalls Tryz.prog 15 [T4, getV] S fun v σ' => v = .str (bs getB) ∧ σ' = S := by
 have hs : ∀ x ∈ [3, 100, 0, 0, 0], x < 18446744073709551616 := by simp
 refine bytesY_spec tabs4 3 100 0 0 0 [109, 49] noV [] [] [] [] (plB true 3 100 0 0 0 [109, 49]) plB_ne (by have := plB_len (pk := true) (key := [109, 49]) hs (by simp); omega) (fun S => ?_) (fun id tt => letW_writes _ id tt 3 100 0 0 0 [109, 49] noV [] [] [] [] hs true (by decide) (by simp)) S
 have := letIs_spec tabs4 ((3 : Nat) : Int) ((100 : Nat) : Int) ((0 : Nat) : Int) ((0 : Nat) : Int) ((0 : Nat) : Int) [109, 49] noV [] [] [] [] okV_no (by simp) (by simp) S
 rw [get_is] at this
 exact this
theorem ze_bytes (S : MS) : MCalls Tryz.prog 15 [T4, zeV] S fun v σ' => v = .str (bs []) ∧ σ' = S := by
 refine bytesN_spec tabs4 0 0 0 0 0 [] noV [] [] [] [] (fun S => ?_) S
 have := letIs_spec tabs4 0 0 0 0 0 [] noV [] [] [] [] okV_no (by simp) (by simp) S
 rw [ze_is] at this
 exact this
theorem right4_spec (S : MS) : MCalls Tryz.prog 22 [T4] S fun v σ' => v = .bool true ∧ σ' = S := by
 have := right_spec tabs4 S
 rw [right4] at this
 exact this
theorem headB_app (k f to i c : Nat) (tl : Bs) : headB k f to i c ++ tl = numB k ++ (numB f ++ (numB to ++ (numB i ++ (numB c ++ tl)))) := by
 simp [headB]
theorem ask_read {i : Nat} (hi : i < 18446744073709551616) (S : MS) : MCalls Tryz.prog 16 [T4, .str (bs (askB i))] S fun v σ' => v = .tup [askV i, .iface0] ∧ σ' = S := by
 have hs : ∀ x ∈ [10, 100, 0, i, 0], x < 18446744073709551616 := by simp; omega
 have e : plB false 10 100 0 i 0 [] = numB 10 ++ (numB 100 ++ (numB 0 ++ (numB i ++ (numB 0 ++ [])))) := headB_app 10 100 0 i 0 []
 refine read_ok tabs4 10 100 0 i 0 [] noV [] [] [] [] (plB false 10 100 0 i 0 []) (by have := plB_len (pk := false) (key := []) hs (by simp); omega) right4_spec (fun id S h => ?_) (fun S => ask_bytes hi S) S
 rw [e] at h
 exact lletter_ok tabs4 id 10 100 0 i 0 [] (by omega) (by omega) (by omega) hi (by omega) (by simp) (by decide) S h
theorem get_read (S : MS) : MCalls Tryz.prog 16 [T4, .str (bs getB)] S fun v σ' => v = .tup [getV, .iface0] ∧ σ' = S := by
 have hs : ∀ x ∈ [3, 100, 0, 0, 0], x < 18446744073709551616 := by simp
 have e : plB true 3 100 0 0 0 [109, 49] = numB 3 ++ (numB 100 ++ (numB 0 ++ (numB 0 ++ (numB 0 ++ (numB ([109, 49] : Bs).length ++ [109, 49]))))) := headB_app 3 100 0 0 0 _
 refine read_ok tabs4 3 100 0 0 0 [109, 49] noV [] [] [] [] (plB true 3 100 0 0 0 [109, 49]) (by have := plB_len (pk := true) (key := [109, 49]) hs (by simp); omega) right4_spec (fun id S h => ?_) (fun S => get_bytes S) S
 rw [e] at h
 exact lletterK_ok tabs4 id 3 100 0 0 0 [109, 49] (by omega) (by omega) (by omega) (by omega) (by omega) (by rw [numB_last (by decide)]; simp) (by decide) S h
theorem askB_ne (i : Nat) : askB i ≠ [] := fun h => by
 have := congrArg List.length h
 simp [askB, plL, leB_len] at this
theorem getB_ne : getB ≠ [] := fun h => by
 have := congrArg List.length h
 simp [getB, plL, leB_len] at this
theorem rSums0 (S : MS) : MCalls Tryz.prog 109 [.lst none 2 [], .lst none 2 []] S fun v σ' => v = .bool true ∧ σ' = S := by
 refine zL Tryz.func109 V Tryz.ntmps109 (zA V) ?_
 refine zB <| qR V <| qA V V V <| qN <| zB <| zB <| qR V <| qM V V V <| qE V V zR2 V <| qM V V V <| qE V V zR2 V <| qC V V V V (V) <| qN <| zM V (V) <| zS <| zB <| zB <| qR V <| qA V V V <| qN <| zX ?_
 refine zT1 (α := Nat) [(0, _), (1, _)] (fun i => [(5, .int .i64 (i : Int))]) (fun i => []) (fun i => i = 0) (fun i => 0 - i) (0) (.keep V (.keep V (.nil))) (.keep V (.nil)) (V) (V) ?_
 rintro i hi
 subst hi
 refine zB <| zB <| qR V <| qM V V V <| qM V V V <| qE V V zR2 V <| qC V V V V (V) <| qN <| zM V (V) <| zO1 <| zB <| qR V <| qA V V V <| qN <| zI ?_
 exact zQ (.inr V) Tryz.results109 V (.of_eq (V)) (.bool _) Vv
theorem rViews0 (S : MS) : MCalls Tryz.prog 105 [encVw [] [], encVw [] []] S fun v σ' => v = .bool true ∧ σ' = S := by
 refine zL Tryz.func105 V Tryz.ntmps105 (zA V) ?_
 refine zB <| qR V <| qB V V V V V <| qB V V V V V <| qA V V V <| qN <| zB <| zB <| qR V <| qF V V V fo33_0 <| qL V V V V ta30 V <| qE V V zC3 V <| qF V V V fo33_0 <| qL V V V V ta30 V <| qE V V zC3 V <| qC V V V V (V) <| qM V V V <| qF V V V fo33_1 ?_
 refine qL V V V V ta31 V <| qE V V zN3 V <| qF V V V fo33_1 <| qL V V V V ta31 V <| qE V V zN3 V <| qC V V V V (V) <| qP V V V V <| qN <| zM V (V) <| zS <| zB <| zB <| qR V <| qA V V V <| qN <| zX ?_
 refine zT1 (α := Nat) [(2, _), (3, _)] (fun i => [(5, .int .i64 (i : Int))]) (fun i => [.cells [.lst none 2 [], .lst none 3 []], .cells [.lst none 2 [], .lst none 3 []]]) (fun i => i = 0) (fun i => 0 - i) (0) (.keep V (.keep V (.nil))) (.keep V (.nil)) (V) (V) ?_
 rintro i hi
 subst hi
 refine zB <| zB <| qR V <| qM V V V <| qF V V V fo33_0 <| qL V V V V ta30 V <| qE V V zC3 V <| qC V V V V (V) <| qN <| zM V (V) <| zO1 <| zB <| zB <| qR V <| qA V V V <| qN <| zX ?_
 refine zT1 (α := Nat) [(2, _), (3, _)] (fun i => [(6, .int .i64 (i : Int))]) (fun i => [.cells [.lst none 2 [], .lst none 3 []], .cells [.lst none 2 [], .lst none 3 []]]) (fun i => i = 0) (fun i => 0 - i) (0) (.keep V (.keep V (.nil))) (.keep V (.nil)) (V) (V) ?_
 rintro i hi
 subst hi
 refine zB <| zB <| qR V <| qM V V V <| qF V V V fo33_1 <| qL V V V V ta31 V <| qE V V zN3 V <| qC V V V V (V) <| qN <| zM V (V) <| zO1 <| zB <| qR V <| qA V V V <| qN <| zI ?_
 exact zQ (.inr V) Tryz.results105 V (.of_eq (V)) (.bool _) Vv
theorem rLetSame0 (S : MS) : MCalls Tryz.prog 44 [getV, getV] S fun v σ' => v = .bool true ∧ σ' = S := by
 refine zL Tryz.func44 V Tryz.ntmps44 (zA V) ?_
 have hvs : ∀ S : MS, MCalls Tryz.prog 88 [encV noV, encV noV] S fun v σ' => v = .bool true ∧ σ' = S := fun S => (rSame_spec noV noV S).mono fun v σ' hv => ⟨hv.1.trans (by simp), hv.2⟩
 refine zB <| qR V <| qB V V V V V <| qB V V V V V <| qA V V V <| qN <| zB <| qR V <| qF V V V zT6 <| qL V V V V ta3 V <| qF V V V zT6 <| qL V V V V ta3 V <| qC V V V V V <| qM V V V <| qF V V V fo35_1 <| qL V V V V ta3 V <| qF V V V fo35_1 <| qL V V V V ta3 V ?_
 refine qC V V V V V <| qP V V V V <| qM V V V <| qF V V V fo35_2 <| qL V V V V ta3 V <| qF V V V fo35_2 <| qL V V V V ta3 V <| qC V V V V V <| qP V V V V <| qM V V V <| qF V V V fo35_3 <| qL V V V V ta22 V <| qF V V V fo35_3 <| qL V V V V ta22 V <| qC V V V V V ?_
 refine qP V V V V <| qM V V V <| qF V V V fo35_4 <| qL V V V V ta3 V <| qF V V V fo35_4 <| qL V V V V ta3 V <| qC V V V V V <| qP V V V V <| qM V V V <| qF V V V fo35_5 <| qL V V V V ta9 V <| qF V V V fo35_5 <| qL V V V V ta9 V <| qO V <| zS2 V V V V <| qP V V V V ?_
 refine qM V V V <| qF V V V fo35_6 <| qL V V V V ta27 V <| qF V V V fo35_6 <| qL V V V V ta27 V ?_
 refine qX V V V V co88 (hvs _) ?_
 refine qP V V V V <| qM V V V <| qF V V V fo35_7 <| qL V V V V ta28 V <| qF V V V fo35_7 <| qL V V V V ta28 V ?_
 refine qX V V V V co30 (rSameE13 [] (by simp) _) ?_
 refine qP V V V V <| qM V V V <| qF V V V fo35_8 <| qL V V V V ta29 V <| qF V V V fo35_8 <| qL V V V V ta29 V ?_
 refine qX V V V V co109 (rSums0 _) ?_
 refine qP V V V V <| qM V V V <| qF V V V zE5 <| qL V V V V ta33 V <| qF V V V zE5 <| qL V V V V ta33 V ?_
 refine qX V V V V co105 (rViews0 _) ?_
 refine qP V V V V <| qA V V V <| qN <| zI ?_
 exact zQ (.inr V) Tryz.results44 V (.of_eq (V)) (.bool _) Vv
theorem known20_spec (S : MS) : MCalls Tryz.prog 34 [] S fun v σ' => v = .bool true ∧ σ' = S := by
 refine zL Tryz.func34 V Tryz.ntmps34 (zA V) ?_
 refine zB <| qR V <| qA V V V <| qN <| zB <| qR V ?_
 refine qX V V V V co36 (law20_tables_spec _) ?_
 refine qX V V V V co35 (pnew_spec _ tabs4 (by decide)) ?_
 rw [List.append_nil]
 refine qA V V V <| qN <| zB <| zB <| qR V <| qM V V V <| qO V <| op_ptrnil V Tryz.underlying77 V V V (.inl Vv) <| qN <| zM V (V) <| zS <| zB <| qR V <| qO V <| zY1 (y := getV) (zZ0 V zT5 zm35 (.cons zT6 sz3 V V (zA V) (.cons fo35_1 sz3 V V (zA V) (.cons fo35_5 sz9 V V (zA V) .nil))) (by kernel_rfl) Vv) ((.agg (.cons (.refl _) (.cons (.refl _) (.cons (.refl _) (.cons (.refl _) (.cons (.refl _) (.cons (.refl _) (.cons (.refl _) (.cons (.refl _) (.cons (.nil 1) (.cons (.nil 1) (.cons (.nil 5) (.cons (.nil 6) (.cons (.nil 2) (.cons (.nil 2) (.cons (.nil 3) (.nil)))))))))))))))))) ?_
 refine qO V <| zN0 V zm35 V V <| qO V <| zC0 V V V V sz35 V V (zA V) V <| qN <| zB <| qR V <| qM V V V <| qL V V V V ta35 V ?_
 refine qX V V V V co37 (put_spec _ tabs4 S.length (S.length + 1) [] ⟨by omega, show _ = some (po tabs4 (S.length + 1) 0) by exact own_get0 rfl, show _ = some (qo []) by rw [getElem?_own]; rfl⟩ ((3 : Nat) : Int) ((100 : Nat) : Int) ((0 : Nat) : Int) ((0 : Nat) : Int) ((0 : Nat) : Int) [109, 49] noV [] [] [] [] getB getB_ne (by simp) get_bytes) ?_
 refine zP6 (S ++ [po tabs4 (S.length + 1) 1, qo [getB], .cells (getV).cells]) (by unfold addS; rw [zN5]; exact own_set0) ?_
 refine qA V V V <| qN <| zB <| qR V <| qM V V V <| qO V <| zY1 (y := zeV) (zZ0 V zT5 zm35 .nil (by kernel_rfl) Vv) ((.agg (.cons (.refl _) (.cons (.refl _) (.cons (.refl _) (.cons (.refl _) (.cons (.refl _) (.cons (.refl _) (.cons (.refl _) (.cons (.refl _) (.cons (.nil 1) (.cons (.nil 1) (.cons (.nil 5) (.cons (.nil 6) (.cons (.nil 2) (.cons (.nil 2) (.cons (.nil 3) (.nil)))))))))))))))))) ?_
 refine qX V V V V co37 (putN_spec _ tabs4 S.length (S.length + 1) [getB] ⟨by omega, show _ = some (po tabs4 (S.length + 1) 1) by exact own_get0 rfl, show _ = some (qo [getB]) by rw [getElem?_own]; rfl⟩ 0 0 0 0 0 [] noV [] [] [] [] ze_bytes) ?_
 refine qA V V V <| qN <| zB <| qR V <| qM V V V ?_
 refine qX V V V V co40 (twice_spec _ tabs4 S.length (S.length + 1) [getB] ⟨by omega, show _ = some (po tabs4 (S.length + 1) 1) by exact own_get0 rfl, show _ = some (qo [getB]) by rw [getElem?_own]; rfl⟩ 0 getB V (by simp)) ?_
 refine zP6 (S ++ [po tabs4 (S.length + 1) 2, qo [getB, getB], .cells (getV).cells]) (by unfold addS; rw [zN5]; exact own_set0) ?_
 refine qA V V V <| qN <| zB <| qR V <| qM V V V ?_
 refine qX V V V V co39 (qlen_spec _ tabs4 S.length (S.length + 1) [getB, getB] ⟨by omega, show _ = some (po tabs4 (S.length + 1) 2) by exact own_get0 rfl, show _ = some (qo [getB, getB]) by rw [getElem?_own]; rfl⟩) ?_
 refine qA V V V <| qN <| zB <| qR V <| qM V V V ?_
 refine qX V V V V co38 (ptake_spec _ tabs4 S.length (S.length + 1) [getB, getB] ⟨by omega, show _ = some (po tabs4 (S.length + 1) 2) by exact own_get0 rfl, show _ = some (qo [getB, getB]) by rw [getElem?_own]; rfl⟩ 0 getB V (by simp) ((3 : Nat) : Int) ((100 : Nat) : Int) ((0 : Nat) : Int) ((0 : Nat) : Int) ((0 : Nat) : Int) [109, 49] noV [] [] [] [] get_read) ?_
 refine zP6 (S ++ [po tabs4 (S.length + 5) 1, qo [getB, getB], .cells (getV).cells, .cells (getV).cells, .gone, qo [getB]]) (by unfold tkS; simp [po, qo, cutQ]; rfl) ?_
 refine qM V V V <| qO V <| zK0 V V V <| qO V <| zK0 V V V <| qO V <| zN0 V zm35 V V <| qO V <| zC0 V V V V sz35 V V (zA V) V <| qA V V V <| qN <| zB <| qR V <| qM V V V ?_
 refine qX V V V V co50 (lose_spec _ tabs4 S.length (S.length + 5) [getB] ⟨by omega, show _ = some (po tabs4 (S.length + 5) 1) by exact own_get0 rfl, show _ = some (qo [getB]) by rw [getElem?_own]; rfl⟩ 0 getB V (by simp)) ?_
 refine zP6 (S ++ [po tabs4 (S.length + 8) 0, qo [getB, getB], .cells (getV).cells, .cells (getV).cells, .gone, qo [getB], .cells (getV).cells, .gone, qo []]) (by unfold tkS; simp [po, qo, cutQ]; rfl) ?_
 refine qA V V V <| qN <| zB <| qR V <| qM V V V ?_
 refine qX V V V V co38 (ptakeN_spec _ tabs4 S.length (S.length + 8) [] ⟨by omega, show _ = some (po tabs4 (S.length + 8) 0) by exact own_get0 rfl, show _ = some (qo []) by rw [getElem?_own]; rfl⟩ 0 V (by simp)) ?_
 refine qM V V V <| qO V <| zK0 V V V <| qO V <| zK0 V V V <| qO V <| zN0 V zm35 V V <| qO V <| zC0 V V V V sz35 V V (zA V) V <| qA V V V <| qN <| zB <| qR V <| qM V V V <| qO V <| zL4 V zH0 V V (.inl Vv) <| qM V V V <| qM V V V <| qO V <| zN1 V V zF1 (by simp) ?_
 refine qX V V V V co18 (errIs_spec 10 _) ?_
 refine qP V V V V <| qM V V V <| qM V V V <| qO V <| zL4 V zH0 V V (.inl Vv) <| qP V V V V <| qM V V V <| qM V V V <| qC V V V V V <| qP V V V V <| qM V V V <| qM V V V <| qO V <| zL4 V zH0 V V (.inl Vv) <| qP V V V V <| qM V V V <| qL V V V V ta35 V ?_
 refine qL V V V V ta35 V ?_
 refine qX V V V V co44 (rLetSame0 _) ?_
 refine qP V V V V <| qM V V V <| qM V V V <| qO V <| zL4 V zH0 V V (.inl Vv) <| qP V V V V <| qM V V V <| qM V V V <| qO V <| zN1 V V zF1 (by simp) ?_
 refine qX V V V V co18 (errIs_spec 19 _) ?_
 refine qP V V V V <| qM V V V <| qM V V V ?_
 refine qX V V V V co41 (allE_spec _ tabs4 S.length (S.length + 8) ⟨by omega, show _ = some (po tabs4 (S.length + 8) 0) by exact own_get0 rfl, show _ = some (qo []) by rw [getElem?_own]; rfl⟩) ?_
 refine qO V <| op_len_lst0 V Tryz.underlying84 V <| qC V V V V V <| qP V V V V <| qA V V V <| qN <| zI ?_
 exact zQ (.inr V) Tryz.results34 V (.of_eq (V)) (.bool _) Vv
def Qs (i : Nat) : List Bs := ((List.range i).drop (i - 400)).map askB
theorem Qs_len (i : Nat) : (Qs i).length = i - (i - 400) := by simp [Qs]
theorem Qs_lt {i : Nat} (h : i < 400) : Qs (i + 1) = Qs i ++ [askB i] := by
 unfold Qs
 rw [show i + 1 - 400 = 0 by omega, show i - 400 = 0 by omega, List.drop_zero, List.drop_zero, List.range_succ, List.map_append]
 rfl
theorem Qs_ge {i : Nat} (h : 400 ≤ i) : Qs (i + 1) = cutQ (Qs i) 0 ++ [askB i] := by
 unfold Qs cutQ
 rw [List.take_zero, List.nil_append, ← List.map_drop, List.drop_drop, show i - 400 + (0 + 1) = i + 1 - 400 by omega, List.range_succ, List.drop_append_of_le_length (by simp), List.map_append]
 rfl
theorem Qs_hd {i : Nat} (h : 0 < i) : (Qs i)[0]? = some (askB (i - 400)) := by
 unfold Qs
 rw [zI0, List.getElem?_drop, List.getElem?_range (by omega)]
 simp
theorem own_of_take {A S : MS} (h : A.take S.length = S) : ∃ M, A = S ++ M := ⟨A.drop S.length, by
 have := List.take_append_drop S.length A
 rw [h] at this
 exact this.symm⟩
theorem take_add {A S : MS} {t : List Tbl} {r : Nat} {Q : List Bs} (h : A.take S.length = S) (hr : S.length ≤ r) : (addS A t S.length r Q).take S.length = S := by
 unfold addS
 rw [List.take_set_of_le (Nat.le_refl _), List.take_set_of_le hr, h]
theorem take_tk {A S : MS} {t : List Tbl} {i : Nat} {Q : List Bs} (h : A.take S.length = S) (hl : S.length ≤ A.length) : (tkS A t S.length i Q).take S.length = S := by
 unfold tkS
 rw [List.take_append_of_le_length (by simpa using hl), List.take_set_of_le (Nat.le_refl _), h]
theorem take_own {S M : MS} : (S ++ M).take S.length = S := by simp
theorem putI (S M : MS) (r i : Nat) (h : PoAt (S ++ M) tabs4 S.length r (Qs i)) (hr : S.length ≤ r) (hi : i < 1000) : ∃ M' r', S.length ≤ r' ∧ PoAt (S ++ M') tabs4 S.length r' (Qs (i + 1)) ∧ MCalls Tryz.prog 37 [.ref S.length 0, askV i] (S ++ M) fun v σ' => v = .iface0 ∧ σ' = S ++ M' := by
 by_cases h4 : i < 400
 ·have hp := put_spec (S ++ M) tabs4 S.length r (Qs i) h ((10 : Nat) : Int) ((100 : Nat) : Int) ((0 : Nat) : Int) (i : Int) ((0 : Nat) : Int) [] noV [] [] [] [] (askB i) (askB_ne i) (by rw [Qs_len]; omega) (fun S => ask_bytes (by omega) S)
  rw [← Qs_lt h4] at hp
  have hA := h.add (Qs (i + 1))
  obtain ⟨M', hM⟩ := own_of_take (take_add (t := tabs4) (Q := Qs (i + 1)) (take_own (S := S) (M := M)) hr)
  rw [hM] at hp hA
  exact ⟨M', r, hr, hA, hp⟩
 ·have hp := putF_spec (S ++ M) tabs4 S.length r (Qs i) h ((10 : Nat) : Int) ((100 : Nat) : Int) ((0 : Nat) : Int) (i : Int) ((0 : Nat) : Int) [] noV [] [] [] [] (askB i) (askB (i - 400)) (askB_ne i) (by rw [Qs_len]; omega) (Qs_hd (by omega)) (fun S => ask_bytes (by omega) S)
  rw [← Qs_ge (by omega)] at hp
  have hA := ((h.sl [MObj.cells (askV i).cells]).tk (i := 0)).add (Qs (i + 1))
  have hrr : S.length ≤ ((S ++ M) ++ [MObj.cells (askV i).cells]).length + 1 := by simp; omega
  obtain ⟨M', hM⟩ := own_of_take (take_add (t := tabs4) (r := ((S ++ M) ++ [MObj.cells (askV i).cells]).length + 1) (Q := Qs (i + 1)) (take_tk (t := tabs4) (i := 0) (Q := Qs i) (A := (S ++ M) ++ [MObj.cells (askV i).cells]) (S := S) (by simp) (by simp)) hrr)
  rw [hM] at hp hA
  exact ⟨M', _, hrr, hA, hp⟩
theorem PostFull_spec (n : Nat) (hn : n < 256) (S : MS) : MCalls Tryz.prog 8 [.int .u8 (n : Int)] S fun v σ' => v = .bool true ∧ σ' = S := by
 refine zL Tryz.func8 V Tryz.ntmps8 (zA V) ?_
 refine zB <| qR V <| qA V V V <| qN <| zB <| zB <| qR V ?_
 refine qX V V V V co34 (known20_spec _) ?_
 refine qO V <| zC1 V V <| qN <| zM V (V) <| zS <| zB <| qR V ?_
 refine qX V V V V co36 (law20_tables_spec _) ?_
 refine qX V V V V co35 (pnew_spec _ tabs4 (by decide)) ?_
 rw [List.append_nil]
 refine qA V V V <| qN <| zB <| qR V <| qM V V V <| qO V <| op_rem V V V (by decide) ((show Int.tmod (n : Int) 10 = ((n % 10 : Nat) : Int) from V)) ?_
 refine qO V <| zP2 V zN4 zW1 V (i64_byte (show n % 10 < 256 by omega)) ?_
 refine qA V V V <| qN <| zB <| zB <| qR V <| qA V V V <| qN <| zX ?_
 refine zT1 (α := Nat × MS × Nat) [(3, _), (4, _)] (fun x => [(5, .int .i64 (x.1 : Int))]) (fun x => x.2.1) (fun x => x.1 ≤ 400 + n % 10 ∧ S.length ≤ x.2.2 ∧ PoAt (S ++ x.2.1) tabs4 S.length x.2.2 (Qs x.1)) (fun x => 400 + n % 10 - x.1) (⟨0, [po tabs4 (S.length + 1) 0, qo []], S.length + 1⟩) (.keep V (.keep V (.nil))) (.keep V (.nil)) (⟨by omega, by dsimp only; omega, ⟨by dsimp only; omega, show _ = some (po tabs4 (S.length + 1) 0) by exact own_get0 rfl, show _ = some (qo []) by rw [getElem?_own]; rfl⟩⟩) (V) ?_
 rintro ⟨i, M, r⟩ ⟨hi, hr, hP⟩
 dsimp only at hi hr hP ⊢
 refine zB <| zB <| qR V <| qM V V V <| qM V V V <| qO V <| zY0 V V V (wadd (a := 400) (b := n % 10) V (by omega)) ?_
 refine qC V V V V V <| qN ?_
 refine zJ V (fun h18 => ?_) (fun h18 => ?_)
 ·
  have hlt : i < 400 + n % 10 := by simp at h18; omega
  refine zS <| zB <| zX <| zB ?_
  obtain ⟨M2, r2, hr2, hP2, hput⟩ := putI S M r i hP hr (by omega)
  refine qR V <| qM V V V <| qM V V V <| qO V <| zP2 V zW1 zM1 V (zL3 (by omega)) ?_
  refine qO V <| zY1 (y := askV i) (zZ0 V zT5 zm35 (.cons zT6 sz3 V V (zA V) (.cons fo35_1 sz3 V V (zA V) (.cons fo35_3 sz22 V V (zA V) .nil))) (by kernel_rfl) Vv) ((.agg (.cons (.refl _) (.cons (.refl _) (.cons (.refl _) (.cons (.refl _) (.cons (.refl _) (.cons (.refl _) (.cons (.refl _) (.cons (.refl _) (.cons (.nil 1) (.cons (.nil 1) (.cons (.nil 5) (.cons (.nil 6) (.cons (.nil 2) (.cons (.nil 2) (.cons (.nil 3) (.nil)))))))))))))))))) ?_
  refine qX V V V V co37 (hput) ?_
  refine qO V <| zL4 V zH0 V V (.inr Vv) <| qN <| zM V (V) <| zS <| qR V <| qM V V V <| qO V <| zY0 V V V V <| qA V V V <| qN ?_
  refine ⟨⟨i + 1, M2, r2⟩, by dsimp only; omega, ⟨by dsimp only; omega, hr2, hP2⟩, rfl, (.keep V (.keep V (.nil))), (.eq V (zV1 (show i < 1000 by omega) (by decide)) (.nil))⟩
 ·
  have hge : i = 400 + n % 10 := by simp at h18; omega
  subst hge
  have hQl : (Qs (400 + n % 10)).length = 400 := by rw [Qs_len]; omega
  have hhd : (Qs (400 + n % 10))[0]? = some (askB (n % 10)) := by rw [Qs_hd (by omega), show 400 + n % 10 - 400 = n % 10 by omega]
  have hcl : (cutQ (Qs (400 + n % 10)) 0).length = 399 := by rw [cutQ_len (by omega), hQl]
  have hT := (hP.sl [MObj.cells (askV (n % 10)).cells]).tk (i := 0)
  have hPA := hT.sl [MObj.cells (askV (n % 10)).cells]
  have hPB := hPA.add (cutQ (Qs (400 + n % 10)) 0 ++ [askB (n % 10)])
  have hQB : (cutQ (Qs (400 + n % 10)) 0 ++ [askB (n % 10)]).length = 400 := by rw [zG, hcl]; rfl
  have hCB : (addS (tkS ((S ++ M) ++ [MObj.cells (askV (n % 10)).cells]) tabs4 S.length 0 (Qs (400 + n % 10)) ++ [MObj.cells (askV (n % 10)).cells]) tabs4 S.length (((S ++ M) ++ [MObj.cells (askV (n % 10)).cells]).length + 1) (cutQ (Qs (400 + n % 10)) 0 ++ [askB (n % 10)]))[(tkS ((S ++ M) ++ [MObj.cells (askV (n % 10)).cells]) tabs4 S.length 0 (Qs (400 + n % 10))).length]? = some (.cells (askV (n % 10)).cells) := by
   have h1 := hT.rl
   have h2 := hT.pl
   unfold addS
   rw [List.getElem?_set_ne (by omega), List.getElem?_set_ne (by omega)]
   simp
  obtain ⟨MB, hMB⟩ : ∃ MB, addS (tkS ((S ++ M) ++ [MObj.cells (askV (n % 10)).cells]) tabs4 S.length 0 (Qs (400 + n % 10)) ++ [MObj.cells (askV (n % 10)).cells]) tabs4 S.length (((S ++ M) ++ [MObj.cells (askV (n % 10)).cells]).length + 1) (cutQ (Qs (400 + n % 10)) 0 ++ [askB (n % 10)]) = S ++ MB := own_of_take (take_add (by rw [List.take_append_of_le_length (by have := hT.pl; omega)]; exact take_tk (by simp) (by simp)) (by simp; omega))
  refine zO1 <| zB <| qR V <| qM V V V ?_
  refine qX V V V V co38 (ptake_spec (S ++ M) tabs4 S.length r (Qs (400 + n % 10)) hP 0 (askB (n % 10)) hhd (by omega) ((10 : Nat) : Int) ((100 : Nat) : Int) ((0 : Nat) : Int) ((n % 10 : Nat) : Int) ((0 : Nat) : Int) [] noV [] [] [] [] (fun S => ask_read (by omega) S)) ?_
  refine qM V V V <| qO V <| zK0 V V V <| qO V <| zK0 V V V <| qO V <| zB4 V zm35 <| qO V <| zI2 V V V sz35 V V (zA V) <| qA V V V <| qN <| zB <| qR V <| qM V V V <| qO V <| op_load_last V V ta35 V ?_
  refine qX V V V V co37 (put_spec (tkS ((S ++ M) ++ [MObj.cells (askV (n % 10)).cells]) tabs4 S.length 0 (Qs (400 + n % 10)) ++ [MObj.cells (askV (n % 10)).cells]) tabs4 S.length (((S ++ M) ++ [MObj.cells (askV (n % 10)).cells]).length + 1) (cutQ (Qs (400 + n % 10)) 0) hPA ((10 : Nat) : Int) ((100 : Nat) : Int) ((0 : Nat) : Int) ((n % 10 : Nat) : Int) ((0 : Nat) : Int) [] noV [] [] [] [] (askB (n % 10)) (askB_ne _) (by omega) (fun S => ask_bytes (by omega) S)) ?_
  refine qN <| zB ?_
  rw [← List.append_nil (addS (tkS ((S ++ M) ++ [MObj.cells (askV (n % 10)).cells]) tabs4 S.length 0 (Qs (400 + n % 10)) ++ [MObj.cells (askV (n % 10)).cells]) tabs4 S.length (((S ++ M) ++ [MObj.cells (askV (n % 10)).cells]).length + 1) (cutQ (Qs (400 + n % 10)) 0 ++ [askB (n % 10)]))]
  refine qR V <| qM V V V <| qO V <| zL4 V zH0 V V (.inl Vv) <| qM V V V <| qF V V V fo35_3 <| qO V <| zJ1 V V hCB ta22 V <| qM V V V <| qO V <| zP2 V zW1 zM1 V (zL3 (by omega)) ?_
  refine qC V V V V (show intCmp .eql ((n % 10 : Nat) : Int) ((n % 10 : Nat) : Int) = some true by simp [intCmp]) ?_
  refine qP V V V V <| qM V V V <| qM V V V ?_
  refine qX V V V V co39 (qlen_spec _ tabs4 S.length (((S ++ M) ++ [MObj.cells (askV (n % 10)).cells]).length + 1) (cutQ (Qs (400 + n % 10)) 0 ++ [askB (n % 10)]) (hPB.sl [])) ?_
  refine qC V V V V (show intCmp .eql (((cutQ (Qs (400 + n % 10)) 0 ++ [askB (n % 10)]).length : Nat) : Int) 400 = some true by rw [hQB]; rfl) ?_
  refine qP V V V V <| qM V V V <| qM V V V ?_
  refine qX V V V V co40 (twiceF_spec _ tabs4 S.length (((S ++ M) ++ [MObj.cells (askV (n % 10)).cells]).length + 1) (cutQ (Qs (400 + n % 10)) 0 ++ [askB (n % 10)]) (hPB.sl []) 3 (by rw [hQB]; decide) hQB) ?_
  refine qO V <| zN1 V V zF1 (by simp) ?_
  refine qX V V V V co18 (errIs_spec 15 _) ?_
  refine qP V V V V <| qA V V V <| qN <| zI <| bq_at (S ++ MB) (by rw [List.append_nil, hMB]) ?_
  exact zQ (.inr V) Tryz.results8 V (.refl _) (.bool _) Vv
end Go.Proofs.YtciimaabeabkdaaGreatDoor
