/-
  Texts on which the proof of PostOrders leans: part 4.
-/
import Derived.Test.YtciimaabeabkdaaGreatDoorPostOrdersC
set_option linter.unusedVariables false
set_option linter.unusedSimpArgs false
set_option maxRecDepth 20000
set_option maxHeartbeats 8000000
namespace Go.Proofs.YtciimaabeabkdaaGreatDoor
open Go Go.MV
theorem one_of {α : Type} {s : List α} (h : s.length = 1) : ∃ t, s = [t] := by
 match s, h with
 | [t], _ => exact ⟨t, rfl⟩
theorem two_of' {α : Type} {s : List α} (h : s.length = 2) : ∃ t u, s = [t, u] := by
 match s, h with
 | [t, u], _ => exact ⟨t, u, rfl⟩
theorem last_no {n m : Int} {s : List Bs} (h : ¬ s = []) (h1 : ¬ s.length = 1) : isLastF n m s = false := by
 match s, h, h1 with
 | [], h, _ => exact absurd rfl h
 | [t], _, h => exact absurd rfl h
 | _ :: _ :: _, _, _ => rfl
theorem one_ins {k : Int} {ins : List Sch} (h : partsF k = (ins.length : Int)) (hk : partsF k = 1) : ∃ t, ins = [t] := one_of (by omega)
theorem isB_mk {k : Int} {ins : List Sch} {fs : List (Val → Bool)} {n m : Int} {s : List Bs} {c : List (List Tk)} {w : List Val} : isB k ins fs (.mk n m s c w) = (bareF k (.mk n m s c w) && decide (w.length ≤ 40) && decide (c.length ≤ 40) &&
 (if k = 1 then true else if k = 2 then decide (n ≤ 1) else if k = 3 then isRowF s
  else if k = 4 then isRowF s && decide (s.length = w.length) && w.all (fun x => fs.headD (fun _ => false) x && !noneF (ins.headD default) x)
  else if k = 5 then (match w with | [x, y] => fs.headD (fun _ => false) x && fs.tail.headD (fun _ => false) y | _ => false)
  else if k = 6 then isLastF n m s
  else if k = 7 then (match c with | [] => true | [c] => decide (0 < c.length) && isClockF c | _ => false)
  else decide (c.length = w.length) && isCauseF c && w.all (fs.headD (fun _ => false)))) := rfl
theorem isVF_mk {ins : List Sch} {n m : Int} {s : List Bs} {c : List (List Tk)} {w : List Val} (k : Int) : isVF (.mk k ins) (.mk n m s c w) = (bareF k (.mk n m s c w) && decide (w.length ≤ 40) && decide (c.length ≤ 40) &&
 (if k = 1 then true else if k = 2 then decide (n ≤ 1) else if k = 3 then isRowF s
  else if k = 4 then isRowF s && decide (s.length = w.length) && w.all (fun x => (isVL ins).headD (fun _ => false) x && !noneF (ins.headD default) x)
  else if k = 5 then (match w with | [x, y] => (isVL ins).headD (fun _ => false) x && (isVL ins).tail.headD (fun _ => false) y | _ => false)
  else if k = 6 then isLastF n m s
  else if k = 7 then (match c with | [] => true | [c] => decide (0 < c.length) && isClockF c | _ => false)
  else decide (c.length = w.length) && isCauseF c && w.all ((isVL ins).headD (fun _ => false)))) := by rw [isVF, isB_mk]
theorem _root_.zM2 : type_of% @isVF_mk := @isVF_mk
theorem match2_no {f g : Val → Bool} {w : List Val} : w.length ≠ 2 → (match w with | [x, y] => f x && g y | _ => false) = false := by
 intro h
 match w, h with
 | [], _ => rfl
 | [_], _ => rfl
 | [_, _], h => exact absurd rfl h
 | _ :: _ :: _ :: _, _ => rfl
theorem match1_no {c : List (List Tk)} : ¬ c = [] → c.length ≠ 1 → (match c with | [] => true | [c] => decide (0 < c.length) && isClockF c | _ => false) = false := by
 intro h0 h
 match c, h0, h with
 | [], h, _ => exact absurd rfl h
 | [_], _, h => exact absurd rfl h
 | _ :: _ :: _, _, _ => rfl
theorem k8_of {k : Int} {n : Nat} (h : partsF k = (n : Int)) : k = 1 ∨ k = 2 ∨ k = 3 ∨ k = 4 ∨ k = 5 ∨ k = 6 ∨ k = 7 ∨ k = 8 := by
 unfold partsF at h
 split at h
 ·omega
 ·split at h
  ·omega
  ·split at h <;> omega
theorem short_any (l : List Bs) : (!(l.any fun s => decide (16 < s.length))) = shortF l := by
 unfold shortF
 rw [zH]
 simp
theorem any_all {l : List Val} {f g : Val → Bool} : (!(l.any fun x => !f x || g x)) = l.all fun x => f x && !g x := by
 rw [zH]
 simp
theorem any_all' {l : List Val} {f : Val → Bool} : (!(l.any fun x => !f x)) = l.all f := by
 rw [zH]
 simp
theorem xIndex_spec (S : MS) (l : List Bs) (p : Bs → Bool) (kf : FuncId) (first caps : List MV) (hco : CallOk Tryz.prog kf) (hp : ∀ x ∈ l, ∀ X : MS, MCalls Tryz.prog kf (first ++ [encX x] ++ caps) (S ++ X) fun v σ' => v = .bool (p x) ∧ σ' = S ++ X) : MCalls Tryz.prog 285 [.lst none 1 (l.map encX), .fn (.func kf) first caps] S fun v σ' => v = .int .i64 (findGo p 0 l) ∧ σ' = S := by
 refine zM Tryz.func285 V Tryz.ntmps285 (zA V) ?_
 refine zL3 (t := 0) V fun hlen => ?_
 rw [zF] at hlen
 refine zB <| qR V <| qA V V V <| qN <| zB <| zB <| qR V <| qM V V V <| qE V V zB0 V <| qM V V V <| qN <| zX ?_
 refine zS1 (α := Nat) [(0, _), (1, _), (7, _)] (fun i => [(8, .int .i64 (i : Int))]) (fun i => []) (fun i => i ≤ l.length ∧ findGo p i (l.drop i) = findGo p 0 l) (fun i => l.length - i) (0) (.keep V (.keep V (.keep V (.nil)))) (.keep V (.nil)) (⟨by omega, rfl⟩) (V) ?_
 rintro i ⟨hi, he⟩
 refine zB <| qR V <| qC V V V V V <| qN <| zB ?_
 refine zJ V (fun h9 => ?_) (fun h9 => ?_)
 ·
  rw [zF] at h9
  have hlt : i < l.length := by simpa using h9
  obtain ⟨x, hs⟩ : ∃ x, l[i]? = some x := ⟨_, zC hlt⟩
  refine zQ <| zB <| zX <| zB <| qR V <| qM V V V <| qA V V V <| qN <| zB <| qR V <| qM V V V <| qM V V V <| qM V V V <| qO V <| zK V zB0 sz9 (by decide) V V V (zE1 hs) ?_
  refine qO V <| zO V V ta9 V ?_
  refine zM5 V (zD1 V V V hco ((hp _ (zW hs) _).mono ?_))
  rintro _ _ ⟨rfl, rfl⟩
  refine qN ?_
  refine zJ V (fun h16 => ?_) (fun h16 => ?_)
  ·
   refine zB <| qR V <| qM V V V <| qA V V V <| qN <| zI ?_
   exact zR (.inr V) Tryz.results285 V (.of_eq (by rw [← he, find_at hs, h16]; rfl)) (.int _ _) Vv
  ·
   refine zQ <| qR V <| qO V <| zT0 V V V V <| qM V V V <| qN ?_
   refine ⟨i + 1, by omega, ⟨by omega, by rw [← he, find_at hs, h16]; rfl⟩, rfl, (.keep V (.keep V (.keep V (.nil)))), (.eq V (zQ1 hlt hlen) (.nil))⟩
 ·
  rw [zF] at h9
  have hge : i = l.length := by simp at h9; omega
  refine zM1 <| zB <| qR V <| qA V V V <| qN <| zI ?_
  exact zR (.inr V) Tryz.results285 V (.of_eq (by rw [← he, hge, List.drop_length]; rfl)) (.int _ _) Vv
theorem xContains_spec (S : MS) (l : List Bs) (p : Bs → Bool) (kf : FuncId) (first caps : List MV) (hco : CallOk Tryz.prog kf) (hp : ∀ x ∈ l, ∀ X : MS, MCalls Tryz.prog kf (first ++ [encX x] ++ caps) (S ++ X) fun v σ' => v = .bool (p x) ∧ σ' = S ++ X) : MCalls Tryz.prog 247 [.lst none 1 (l.map encX), .fn (.func kf) first caps] S fun v σ' => v = .bool (l.any p) ∧ σ' = S := by
 refine zM Tryz.func247 V Tryz.ntmps247 (zA V) ?_
 refine zB <| qR V <| qA V V V <| qN <| zB <| qR V <| qM V V V <| qM V V V ?_
 refine qX V V V V co285 (xIndex_spec (S ++ []) l p kf first caps hco (by rw [List.append_nil]; exact hp)) ?_
 refine qC V V V V V <| qA V V V <| qN <| zI ?_
 exact zR (.inr V) Tryz.results247 V (.of_eq (by rw [find_any p 0 l])) (.bool _) Vv
theorem vIndex_spec (S : MS) (l : List Val) (p : Val → Bool) (kf : FuncId) (first caps : List MV) (hco : CallOk Tryz.prog kf) (hp : ∀ x ∈ l, ∀ X : MS, MCalls Tryz.prog kf (first ++ [encV x] ++ caps) (S ++ X) fun v σ' => v = .bool (p x) ∧ σ' = S ++ X) : MCalls Tryz.prog 249 [.lst none 5 (encVs l), .fn (.func kf) first caps] S fun v σ' => v = .int .i64 (findGo p 0 l) ∧ σ' = S := by
 refine zM Tryz.func249 V Tryz.ntmps249 (zA V) ?_
 refine zL3 (t := 0) V fun hlen => ?_
 rw [zU0] at hlen
 refine zB <| qR V <| qA V V V <| qN <| zB <| zB <| qR V <| qM V V V <| qE V V zI0 V <| qM V V V <| qN <| zX ?_
 refine zS1 (α := Nat) [(0, _), (1, _), (7, _)] (fun i => [(8, .int .i64 (i : Int))]) (fun i => []) (fun i => i ≤ l.length ∧ findGo p i (l.drop i) = findGo p 0 l) (fun i => l.length - i) (0) (.keep V (.keep V (.keep V (.nil)))) (.keep V (.nil)) (⟨by omega, rfl⟩) (V) ?_
 rintro i ⟨hi, he⟩
 refine zB <| qR V <| qC V V V V V <| qN <| zB ?_
 refine zJ V (fun h9 => ?_) (fun h9 => ?_)
 ·
  rw [zU0] at h9
  have hlt : i < l.length := by simpa using h9
  obtain ⟨x, hs⟩ : ∃ x, l[i]? = some x := ⟨_, zC hlt⟩
  obtain ⟨n1, m1, s1, c1, w1⟩ := x
  refine zQ <| zB <| zX <| zB <| qR V <| qM V V V <| qA V V V <| qN <| zB <| qR V <| qM V V V <| qM V V V <| qM V V V <| qO V <| zK V zI0 sz27 (by decide) V V V (zK4 hs) ?_
  refine qO V <| zO V V ta27 V ?_
  refine zM5 V (zD1 V V V hco ((hp _ (zW hs) _).mono ?_))
  rintro _ _ ⟨rfl, rfl⟩
  refine qN ?_
  refine zJ V (fun h16 => ?_) (fun h16 => ?_)
  ·
   refine zB <| qR V <| qM V V V <| qA V V V <| qN <| zI ?_
   exact zR (.inr V) Tryz.results249 V (.of_eq (by rw [← he, find_at hs, h16]; rfl)) (.int _ _) Vv
  ·
   refine zQ <| qR V <| qO V <| zT0 V V V V <| qM V V V <| qN ?_
   refine ⟨i + 1, by omega, ⟨by omega, by rw [← he, find_at hs, h16]; rfl⟩, rfl, (.keep V (.keep V (.keep V (.nil)))), (.eq V (zQ1 hlt hlen) (.nil))⟩
 ·
  rw [zU0] at h9
  have hge : i = l.length := by simp at h9; omega
  refine zM1 <| zB <| qR V <| qA V V V <| qN <| zI ?_
  exact zR (.inr V) Tryz.results249 V (.of_eq (by rw [← he, hge, List.drop_length]; rfl)) (.int _ _) Vv
theorem vContains_spec (S : MS) (l : List Val) (p : Val → Bool) (kf : FuncId) (first caps : List MV) (hco : CallOk Tryz.prog kf) (hp : ∀ x ∈ l, ∀ X : MS, MCalls Tryz.prog kf (first ++ [encV x] ++ caps) (S ++ X) fun v σ' => v = .bool (p x) ∧ σ' = S ++ X) : MCalls Tryz.prog 208 [.lst none 5 (encVs l), .fn (.func kf) first caps] S fun v σ' => v = .bool (l.any p) ∧ σ' = S := by
 refine zM Tryz.func208 V Tryz.ntmps208 (zA V) ?_
 refine zB <| qR V <| qA V V V <| qN <| zB <| qR V <| qM V V V <| qM V V V ?_
 refine qX V V V V co249 (vIndex_spec (S ++ []) l p kf first caps hco (by rw [List.append_nil]; exact hp)) ?_
 refine qC V V V V V <| qA V V V <| qN <| zI ?_
 exact zR (.inr V) Tryz.results208 V (.of_eq (by rw [find_any p 0 l])) (.bool _) Vv
theorem isRow1_spec (s : Bs) (S : MS) : MCalls Tryz.prog 248 [.str (bs s)] S fun v σ' => v = .bool (decide (16 < s.length)) ∧ σ' = S := by
 refine zM Tryz.func248 V Tryz.ntmps248 (zA V) ?_
 refine zB <| qR V <| qA V V V <| qN <| zB <| qR V <| qM V V V <| qO V <| zU3 V zV0 V <| qC V V V V V <| qA V V V <| qN <| zI ?_
 exact zR (.inr V) Tryz.results248 V (.of_eq (by congr 1; rw [zH]; simp; omega)) (.bool _) Vv
theorem isRow_spec (l : List Bs) (S : MS) : MCalls Tryz.prog 207 [.lst none 1 (l.map encX)] S fun v σ' => v = .bool (isRowF l) ∧ σ' = S := by
 refine zM Tryz.func207 V Tryz.ntmps207 (zA V) ?_
 refine zB <| qR V <| qA V V V <| qN <| zB <| qR V <| qM V V V <| qE V V zB0 V <| qC V V V V V <| qM V V V ?_
 refine zZ (fun h6 => ?_) (fun h6 => ?_)
 ·
  refine qM V V V ?_
  refine qX V V V V co118 (rowsIs_spec l _) ?_
  refine qP V V V V <| qM V V V ?_
  refine zZ (fun h10 => ?_) (fun h10 => ?_)
  ·
   refine qM V V V ?_
   refine qX V V V V co247 (xContains_spec _ l (fun s => decide (16 < s.length)) _ [] [] co248 (fun x _ X => isRow1_spec x _)) ?_
   refine qO V <| zC1 V V <| qP V V V V <| qA V V V <| qN <| zI ?_
   exact zR (.inr V) Tryz.results207 V (.of_eq (by congr 1; unfold isRowF; rw [← short_any, zH]; simp_all <;> omega)) (.bool _) Vv
  ·
   refine qS V <| qS V <| qS V <| qP V V V V <| qA V V V <| qN <| zI ?_
   exact zR (.inr V) Tryz.results207 V (.of_eq (by congr 1; unfold isRowF; rw [← short_any, zH]; simp_all <;> omega)) (.bool _) Vv
 ·
  refine qS V <| qS V <| qP V V V V <| qM V V V <| qS V <| qS V <| qS V <| qP V V V V <| qA V V V <| qN <| zI ?_
  exact zR (.inr V) Tryz.results207 V (.of_eq (by congr 1; unfold isRowF; rw [← short_any, zH]; simp_all <;> omega)) (.bool _) Vv
theorem _root_.zR5 : type_of% @Tryz.results210 := @Tryz.results210
theorem isLast_spec (n m : Int) (s : List Bs) (c : List (List Tk)) (w : List Val) (hn : 0 ≤ n) (hm : 0 ≤ m) (S : MS) : MCalls Tryz.prog 210 [encV (.mk n m s c w)] S fun v σ' => v = .bool (isLastF n m s) ∧ σ' = S := by
 refine zM Tryz.func210 V Tryz.ntmps210 (zA V) ?_
 refine zB <| qR V <| qB V V V V V <| qA V V V <| qN <| zB <| zB <| qR V <| qF V V V zC3 <| qL V V V V ta23 V <| qE V V zB0 V <| qC V V V V V <| qN ?_
 refine zJ V (fun h6 => ?_) (fun h6 => ?_)
 ·
  have hs0 : s = [] := by simpa using h6
  subst hs0
  refine zB <| qR V <| qF V V V zC5 <| qL V V V V ta22 V <| qC V V V V V <| qM V V V ?_
  refine zZ (fun h10 => ?_) (fun h10 => ?_)
  ·
   refine qF V V V zI6 <| qL V V V V ta22 V <| qC V V V V V <| qP V V V V <| qA V V V <| qN <| zI ?_
   exact zR (.inr V) zR5 V (.of_eq (by first | (rw [hF]; done) | (congr 1; rw [zH]; simp_all [isLastF]; done) | (congr 1; rw [zH]; simp_all [isLastF]; omega))) (.bool _) Vv
  ·
   refine qS V <| qS V <| qS V <| qP V V V V <| qA V V V <| qN <| zI ?_
   exact zR (.inr V) zR5 V (.of_eq (by first | (rw [hF]; done) | (congr 1; rw [zH]; simp_all [isLastF]; done) | (congr 1; rw [zH]; simp_all [isLastF]; omega))) (.bool _) Vv
 ·
  have hs0 : ¬ s = [] := by simpa using h6
  refine zQ <| zB <| qR V <| qF V V V zC3 <| qL V V V V ta23 V <| qE V V zB0 V <| qC V V V V V <| qM V V V ?_
  refine zZ (fun h19 => ?_) (fun h19 => ?_)
  ·
   obtain ⟨t, rfl⟩ := one_of (by rw [zF] at h19; simp at h19; omega : s.length = 1)
   refine qF V V V zC3 <| qL V V V V ta23 V <| qO V <| zK V zB0 sz9 (by decide) V V V (show _ = some (encX t) from V) ?_
   refine qO V <| zO V V ta9 V <| qO V <| zU3 V zV0 V <| qC V V V V V <| qP V V V V <| qM V V V ?_
   refine zZ (fun h27 => ?_) (fun h27 => ?_)
   ·
    have h27n : t.length ≤ 16 := by simp at h27; omega
    refine qF V V V zC5 <| qL V V V V ta22 V <| qC V V V V V <| qM V V V ?_
    refine zZ (fun h31 => ?_) (fun h31 => ?_)
    ·
     refine qS V <| qS V <| qS V <| qP V V V V <| qM V V V <| qT V V V V <| qS V <| qP V V V V <| qP V V V V <| qA V V V <| qN <| zI ?_
     exact zR (.inr V) zR5 V (.of_eq (by first | (rw [hF]; done) | (congr 1; rw [zH]; simp_all [isLastF]; done) | (congr 1; rw [zH]; simp_all [isLastF]; omega))) (.bool _) Vv
    ·
     have hn0 : n = 0 := by simp at h31; omega
     subst hn0
     refine qF V V V zI6 <| qL V V V V ta22 V <| qC V V V V V <| qP V V V V <| qM V V V ?_
     refine zZ (fun h36 => ?_) (fun h36 => ?_)
     ·
      refine qT V V V V <| qS V <| qP V V V V <| qP V V V V <| qA V V V <| qN <| zI ?_
      exact zR (.inr V) zR5 V (.of_eq (by first | (rw [hF]; done) | (congr 1; rw [zH]; simp_all [isLastF]; done) | (congr 1; rw [zH]; simp_all [isLastF]; omega))) (.bool _) Vv
     ·
      have hm0 : m = 0 := by simp at h36; omega
      subst hm0
      refine qF V V V zC3 <| qL V V V V ta23 V <| qO V <| zK V zB0 sz9 (by decide) V V V (show _ = some (encX t) from V) ?_
      refine qO V <| zO V V ta9 V <| qO V <| zS2 V V V V <| qP V V V V <| qP V V V V <| qA V V V <| qN <| zI ?_
      exact zR (.inr V) zR5 V (.of_eq (by first | (rw [hF]; done) | (congr 1; rw [zH]; simp_all [isLastF]; done) | (congr 1; rw [zH]; simp_all [isLastF]; omega))) (.bool _) Vv
   ·
    refine qT V V V V <| qT V V V V <| qT V V V V <| qS V <| qS V <| qS V <| qP V V V V <| qA V V V <| qN <| zI ?_
    exact zR (.inr V) zR5 V (.of_eq (by first | (rw [hF]; done) | (congr 1; rw [zH]; simp_all [isLastF]; done) | (congr 1; rw [zH]; simp_all [isLastF]; omega))) (.bool _) Vv
  ·
   have hF : isLastF n m s = false := last_no hs0 (fun e => by rw [zF, e] at h19; simp at h19)
   refine qT V V V V <| qS V <| qS V <| qP V V V V <| qM V V V <| qT V V V V <| qT V V V V <| qT V V V V <| qS V <| qS V <| qS V <| qP V V V V <| qA V V V <| qN ?_
   refine zI ?_
   exact zR (.inr V) zR5 V (.of_eq (by first | (rw [hF]; done) | (congr 1; rw [zH]; simp_all [isLastF]; done) | (congr 1; rw [zH]; simp_all [isLastF]; omega))) (.bool _) Vv
theorem _root_.zS5 : type_of% @Tryz.ntmps205 := @Tryz.ntmps205
theorem _root_.zI1 : type_of% @Tryz.results205 := @Tryz.results205
theorem bare_spec (k : Int) (hk : k = 1 ∨ k = 2 ∨ k = 3 ∨ k = 4 ∨ k = 5 ∨ k = 6 ∨ k = 7 ∨ k = 8) (n m : Int) (s : List Bs) (c : List (List Tk)) (w : List Val) (S : MS) : MCalls Tryz.prog 205 [.int .i64 k, encV (.mk n m s c w)] S fun v σ' => v = .bool (bareF k (.mk n m s c w)) ∧ σ' = S := by
 rcases hk with rfl | rfl | rfl | rfl | rfl | rfl | rfl | rfl
 ·
  refine zM zI5 V zS5 (zA V) ?_
  refine zB <| qR V <| qB V V V V V <| qA V V V <| qN <| zB <| qR V <| qM V V V <| qC V V V V V <| qM V V V <| qS V <| qS V <| qP V V V V <| qM V V V <| qS V <| qS V <| qP V V V V <| qA V V V <| qN <| zB <| qR V ?_
  refine qM V V V <| qC V V V V V <| qM V V V <| qM V V V <| qC V V V V V <| qP V V V V <| qM V V V <| qM V V V <| qC V V V V V <| qP V V V V <| qA V V V <| qN <| zB <| qR V <| qM V V V <| qC V V V V V <| qM V V V ?_
  refine qM V V V <| qC V V V V V <| qP V V V V <| qA V V V <| qN <| zB <| qR V <| qM V V V <| qC V V V V V <| qM V V V <| qM V V V <| qC V V V V V <| qP V V V V <| qM V V V <| qM V V V <| qC V V V V V <| qP V V V V ?_
  refine qA V V V <| qN <| zB <| qR V <| qM V V V <| qM V V V <| qS V <| qS V <| qS V <| qP V V V V <| qM V V V <| qM V V V <| qC V V V V V <| qM V V V <| qF V V V zI6 <| qL V V V V ta22 V <| qC V V V V V <| qP V V V V ?_
  refine qP V V V V <| qM V V V ?_
  refine zZ (fun h60 => ?_) (fun h60 => ?_)
  ·
   refine qM V V V <| qM V V V <| qF V V V zC3 <| qL V V V V ta23 V <| qE V V zB0 V <| qC V V V V V <| qP V V V V <| qP V V V V <| qM V V V ?_
   refine zZ (fun h69 => ?_) (fun h69 => ?_)
   ·
    refine qM V V V <| qM V V V <| qF V V V zT2 <| qL V V V V ta24 V <| qE V V zE0 V <| qC V V V V V <| qP V V V V <| qP V V V V <| qM V V V ?_
    refine zZ (fun h78 => ?_) (fun h78 => ?_)
    ·
     refine qM V V V <| qM V V V <| qF V V V zI2 <| qL V V V V ta25 V <| qE V V zI0 V ?_
     try rw [zU0]
     refine qC V V V V V <| qP V V V V <| qP V V V V <| qA V V V <| qN <| zI ?_
     exact zR (.inr V) zI1 V (.of_eq (by congr 1; rw [zH]; simp_all [bareF, numsK, textsK, clocksK, valuesK, Val.nv, Val.mv, Val.sv, Val.cv, Val.vv])) (.bool _) Vv
    ·
     refine qT V V V V <| qS V <| qS V <| qS V <| qP V V V V <| qA V V V <| qN <| zI ?_
     exact zR (.inr V) zI1 V (.of_eq (by congr 1; rw [zH]; simp_all [bareF, numsK, textsK, clocksK, valuesK, Val.nv, Val.mv, Val.sv, Val.cv, Val.vv])) (.bool _) Vv
   ·
    refine qT V V V V <| qS V <| qS V <| qS V <| qP V V V V <| qM V V V <| qT V V V V <| qS V <| qS V <| qS V <| qP V V V V <| qA V V V <| qN <| zI ?_
    exact zR (.inr V) zI1 V (.of_eq (by congr 1; rw [zH]; simp_all [bareF, numsK, textsK, clocksK, valuesK, Val.nv, Val.mv, Val.sv, Val.cv, Val.vv])) (.bool _) Vv
  ·
   refine qT V V V V <| qS V <| qS V <| qS V <| qP V V V V <| qM V V V <| qT V V V V <| qS V <| qS V <| qS V <| qP V V V V <| qM V V V <| qT V V V V <| qS V <| qS V <| qS V <| qP V V V V ?_
   refine qA V V V <| qN <| zI ?_
   exact zR (.inr V) zI1 V (.of_eq (by congr 1; rw [zH]; simp_all [bareF, numsK, textsK, clocksK, valuesK, Val.nv, Val.mv, Val.sv, Val.cv, Val.vv])) (.bool _) Vv
 ·
  refine zM zI5 V zS5 (zA V) ?_
  refine zB <| qR V <| qB V V V V V <| qA V V V <| qN <| zB <| qR V <| qM V V V <| qC V V V V V <| qM V V V <| qM V V V <| qC V V V V V <| qP V V V V <| qM V V V <| qS V <| qS V <| qP V V V V <| qA V V V <| qN ?_
  refine zB <| qR V <| qM V V V <| qC V V V V V <| qM V V V <| qM V V V <| qC V V V V V <| qP V V V V <| qM V V V <| qM V V V <| qC V V V V V <| qP V V V V <| qA V V V <| qN <| zB <| qR V <| qM V V V <| qC V V V V V ?_
  refine qM V V V <| qM V V V <| qC V V V V V <| qP V V V V <| qA V V V <| qN <| zB <| qR V <| qM V V V <| qC V V V V V <| qM V V V <| qM V V V <| qC V V V V V <| qP V V V V <| qM V V V <| qM V V V <| qC V V V V V ?_
  refine qP V V V V <| qA V V V <| qN <| zB <| qR V <| qM V V V <| qM V V V <| qS V <| qS V <| qS V <| qP V V V V <| qM V V V <| qM V V V <| qC V V V V V <| qM V V V <| qF V V V zI6 <| qL V V V V ta22 V <| qC V V V V V ?_
  refine qP V V V V <| qP V V V V <| qM V V V ?_
  refine zZ (fun h60 => ?_) (fun h60 => ?_)
  ·
   refine qM V V V <| qM V V V <| qF V V V zC3 <| qL V V V V ta23 V <| qE V V zB0 V <| qC V V V V V <| qP V V V V <| qP V V V V <| qM V V V ?_
   refine zZ (fun h69 => ?_) (fun h69 => ?_)
   ·
    refine qM V V V <| qM V V V <| qF V V V zT2 <| qL V V V V ta24 V <| qE V V zE0 V <| qC V V V V V <| qP V V V V <| qP V V V V <| qM V V V ?_
    refine zZ (fun h78 => ?_) (fun h78 => ?_)
    ·
     refine qM V V V <| qM V V V <| qF V V V zI2 <| qL V V V V ta25 V <| qE V V zI0 V ?_
     try rw [zU0]
     refine qC V V V V V <| qP V V V V <| qP V V V V <| qA V V V <| qN <| zI ?_
     exact zR (.inr V) zI1 V (.of_eq (by congr 1; rw [zH]; simp_all [bareF, numsK, textsK, clocksK, valuesK, Val.nv, Val.mv, Val.sv, Val.cv, Val.vv])) (.bool _) Vv
    ·
     refine qT V V V V <| qS V <| qS V <| qS V <| qP V V V V <| qA V V V <| qN <| zI ?_
     exact zR (.inr V) zI1 V (.of_eq (by congr 1; rw [zH]; simp_all [bareF, numsK, textsK, clocksK, valuesK, Val.nv, Val.mv, Val.sv, Val.cv, Val.vv])) (.bool _) Vv
   ·
    refine qT V V V V <| qS V <| qS V <| qS V <| qP V V V V <| qM V V V <| qT V V V V <| qS V <| qS V <| qS V <| qP V V V V <| qA V V V <| qN <| zI ?_
    exact zR (.inr V) zI1 V (.of_eq (by congr 1; rw [zH]; simp_all [bareF, numsK, textsK, clocksK, valuesK, Val.nv, Val.mv, Val.sv, Val.cv, Val.vv])) (.bool _) Vv
  ·
   refine qT V V V V <| qS V <| qS V <| qS V <| qP V V V V <| qM V V V <| qT V V V V <| qS V <| qS V <| qS V <| qP V V V V <| qM V V V <| qT V V V V <| qS V <| qS V <| qS V <| qP V V V V ?_
   refine qA V V V <| qN <| zI ?_
   exact zR (.inr V) zI1 V (.of_eq (by congr 1; rw [zH]; simp_all [bareF, numsK, textsK, clocksK, valuesK, Val.nv, Val.mv, Val.sv, Val.cv, Val.vv])) (.bool _) Vv
 ·
  refine zM zI5 V zS5 (zA V) ?_
  refine zB <| qR V <| qB V V V V V <| qA V V V <| qN <| zB <| qR V <| qM V V V <| qC V V V V V <| qM V V V <| qM V V V <| qC V V V V V <| qP V V V V <| qM V V V <| qM V V V <| qC V V V V V <| qP V V V V <| qA V V V ?_
  refine qN <| zB <| qR V <| qM V V V <| qC V V V V V <| qM V V V <| qS V <| qS V <| qP V V V V <| qM V V V <| qS V <| qS V <| qP V V V V <| qA V V V <| qN <| zB <| qR V <| qM V V V <| qC V V V V V <| qM V V V ?_
  refine qM V V V <| qC V V V V V <| qP V V V V <| qA V V V <| qN <| zB <| qR V <| qM V V V <| qC V V V V V <| qM V V V <| qM V V V <| qC V V V V V <| qP V V V V <| qM V V V <| qM V V V <| qC V V V V V <| qP V V V V ?_
  refine qA V V V <| qN <| zB <| qR V <| qM V V V <| qM V V V <| qF V V V zC5 <| qL V V V V ta22 V <| qC V V V V V <| qP V V V V <| qM V V V ?_
  refine zZ (fun h51 => ?_) (fun h51 => ?_)
  ·
   refine qM V V V <| qC V V V V V <| qM V V V <| qF V V V zI6 <| qL V V V V ta22 V <| qC V V V V V <| qP V V V V <| qP V V V V <| qM V V V ?_
   refine zZ (fun h60 => ?_) (fun h60 => ?_)
   ·
    refine qM V V V <| qM V V V <| qT V V V V <| qP V V V V <| qP V V V V <| qM V V V <| qM V V V <| qM V V V <| qF V V V zT2 <| qL V V V V ta24 V <| qE V V zE0 V <| qC V V V V V <| qP V V V V <| qP V V V V ?_
    refine qM V V V ?_
    refine zZ (fun h78 => ?_) (fun h78 => ?_)
    ·
     refine qM V V V <| qM V V V <| qF V V V zI2 <| qL V V V V ta25 V <| qE V V zI0 V ?_
     try rw [zU0]
     refine qC V V V V V <| qP V V V V <| qP V V V V <| qA V V V <| qN <| zI ?_
     exact zR (.inr V) zI1 V (.of_eq (by congr 1; rw [zH]; simp_all [bareF, numsK, textsK, clocksK, valuesK, Val.nv, Val.mv, Val.sv, Val.cv, Val.vv])) (.bool _) Vv
    ·
     refine qT V V V V <| qS V <| qS V <| qS V <| qP V V V V <| qA V V V <| qN <| zI ?_
     exact zR (.inr V) zI1 V (.of_eq (by congr 1; rw [zH]; simp_all [bareF, numsK, textsK, clocksK, valuesK, Val.nv, Val.mv, Val.sv, Val.cv, Val.vv])) (.bool _) Vv
   ·
    refine qT V V V V <| qS V <| qS V <| qS V <| qP V V V V <| qM V V V <| qT V V V V <| qS V <| qS V <| qS V <| qP V V V V <| qM V V V <| qT V V V V <| qS V <| qS V <| qS V <| qP V V V V ?_
    refine qA V V V <| qN <| zI ?_
    exact zR (.inr V) zI1 V (.of_eq (by congr 1; rw [zH]; simp_all [bareF, numsK, textsK, clocksK, valuesK, Val.nv, Val.mv, Val.sv, Val.cv, Val.vv])) (.bool _) Vv
  ·
   refine qT V V V V <| qS V <| qS V <| qS V <| qP V V V V <| qM V V V <| qT V V V V <| qS V <| qS V <| qS V <| qP V V V V <| qM V V V <| qT V V V V <| qS V <| qS V <| qS V <| qP V V V V ?_
   refine qM V V V <| qT V V V V <| qS V <| qS V <| qS V <| qP V V V V <| qA V V V <| qN <| zI ?_
   exact zR (.inr V) zI1 V (.of_eq (by congr 1; rw [zH]; simp_all [bareF, numsK, textsK, clocksK, valuesK, Val.nv, Val.mv, Val.sv, Val.cv, Val.vv])) (.bool _) Vv
 ·
  refine zM zI5 V zS5 (zA V) ?_
  refine zB <| qR V <| qB V V V V V <| qA V V V <| qN <| zB <| qR V <| qM V V V <| qC V V V V V <| qM V V V <| qM V V V <| qC V V V V V <| qP V V V V <| qM V V V <| qM V V V <| qC V V V V V <| qP V V V V <| qA V V V ?_
  refine qN <| zB <| qR V <| qM V V V <| qC V V V V V <| qM V V V <| qM V V V <| qC V V V V V <| qP V V V V <| qM V V V <| qS V <| qS V <| qP V V V V <| qA V V V <| qN <| zB <| qR V <| qM V V V <| qC V V V V V ?_
  refine qM V V V <| qM V V V <| qC V V V V V <| qP V V V V <| qA V V V <| qN <| zB <| qR V <| qM V V V <| qC V V V V V <| qM V V V <| qS V <| qS V <| qP V V V V <| qM V V V <| qS V <| qS V <| qP V V V V <| qA V V V ?_
  refine qN <| zB <| qR V <| qM V V V <| qM V V V <| qF V V V zC5 <| qL V V V V ta22 V <| qC V V V V V <| qP V V V V <| qM V V V ?_
  refine zZ (fun h51 => ?_) (fun h51 => ?_)
  ·
   refine qM V V V <| qC V V V V V <| qM V V V <| qF V V V zI6 <| qL V V V V ta22 V <| qC V V V V V <| qP V V V V <| qP V V V V <| qM V V V ?_
   refine zZ (fun h60 => ?_) (fun h60 => ?_)
   ·
    refine qM V V V <| qM V V V <| qT V V V V <| qP V V V V <| qP V V V V <| qM V V V <| qM V V V <| qM V V V <| qF V V V zT2 <| qL V V V V ta24 V <| qE V V zE0 V <| qC V V V V V <| qP V V V V <| qP V V V V ?_
    refine qM V V V ?_
    refine zZ (fun h78 => ?_) (fun h78 => ?_)
    ·
     refine qM V V V <| qM V V V <| qT V V V V <| qP V V V V <| qP V V V V <| qA V V V <| qN <| zI ?_
     exact zR (.inr V) zI1 V (.of_eq (by congr 1; rw [zH]; simp_all [bareF, numsK, textsK, clocksK, valuesK, Val.nv, Val.mv, Val.sv, Val.cv, Val.vv])) (.bool _) Vv
    ·
     refine qT V V V V <| qS V <| qS V <| qS V <| qP V V V V <| qA V V V <| qN <| zI ?_
     exact zR (.inr V) zI1 V (.of_eq (by congr 1; rw [zH]; simp_all [bareF, numsK, textsK, clocksK, valuesK, Val.nv, Val.mv, Val.sv, Val.cv, Val.vv])) (.bool _) Vv
   ·
    refine qT V V V V <| qS V <| qS V <| qS V <| qP V V V V <| qM V V V <| qT V V V V <| qS V <| qS V <| qS V <| qP V V V V <| qM V V V <| qT V V V V <| qS V <| qS V <| qS V <| qP V V V V ?_
    refine qA V V V <| qN <| zI ?_
    exact zR (.inr V) zI1 V (.of_eq (by congr 1; rw [zH]; simp_all [bareF, numsK, textsK, clocksK, valuesK, Val.nv, Val.mv, Val.sv, Val.cv, Val.vv])) (.bool _) Vv
  ·
   refine qT V V V V <| qS V <| qS V <| qS V <| qP V V V V <| qM V V V <| qT V V V V <| qS V <| qS V <| qS V <| qP V V V V <| qM V V V <| qT V V V V <| qS V <| qS V <| qS V <| qP V V V V ?_
   refine qM V V V <| qT V V V V <| qS V <| qS V <| qS V <| qP V V V V <| qA V V V <| qN <| zI ?_
   exact zR (.inr V) zI1 V (.of_eq (by congr 1; rw [zH]; simp_all [bareF, numsK, textsK, clocksK, valuesK, Val.nv, Val.mv, Val.sv, Val.cv, Val.vv])) (.bool _) Vv
 ·
  refine zM zI5 V zS5 (zA V) ?_
  refine zB <| qR V <| qB V V V V V <| qA V V V <| qN <| zB <| qR V <| qM V V V <| qC V V V V V <| qM V V V <| qM V V V <| qC V V V V V <| qP V V V V <| qM V V V <| qM V V V <| qC V V V V V <| qP V V V V <| qA V V V ?_
  refine qN <| zB <| qR V <| qM V V V <| qC V V V V V <| qM V V V <| qM V V V <| qC V V V V V <| qP V V V V <| qM V V V <| qM V V V <| qC V V V V V <| qP V V V V <| qA V V V <| qN <| zB <| qR V <| qM V V V ?_
  refine qC V V V V V <| qM V V V <| qM V V V <| qC V V V V V <| qP V V V V <| qA V V V <| qN <| zB <| qR V <| qM V V V <| qC V V V V V <| qM V V V <| qM V V V <| qC V V V V V <| qP V V V V <| qM V V V <| qS V ?_
  refine qS V <| qP V V V V <| qA V V V <| qN <| zB <| qR V <| qM V V V <| qM V V V <| qF V V V zC5 <| qL V V V V ta22 V <| qC V V V V V <| qP V V V V <| qM V V V ?_
  refine zZ (fun h51 => ?_) (fun h51 => ?_)
  ·
   refine qM V V V <| qC V V V V V <| qM V V V <| qF V V V zI6 <| qL V V V V ta22 V <| qC V V V V V <| qP V V V V <| qP V V V V <| qM V V V ?_
   refine zZ (fun h60 => ?_) (fun h60 => ?_)
   ·
    refine qM V V V <| qM V V V <| qF V V V zC3 <| qL V V V V ta23 V <| qE V V zB0 V <| qC V V V V V <| qP V V V V <| qP V V V V <| qM V V V ?_
    refine zZ (fun h69 => ?_) (fun h69 => ?_)
    ·
     refine qM V V V <| qM V V V <| qF V V V zT2 <| qL V V V V ta24 V <| qE V V zE0 V <| qC V V V V V <| qP V V V V <| qP V V V V <| qM V V V ?_
     refine zZ (fun h78 => ?_) (fun h78 => ?_)
     ·
      refine qM V V V <| qM V V V <| qT V V V V <| qP V V V V <| qP V V V V <| qA V V V <| qN <| zI ?_
      exact zR (.inr V) zI1 V (.of_eq (by congr 1; rw [zH]; simp_all [bareF, numsK, textsK, clocksK, valuesK, Val.nv, Val.mv, Val.sv, Val.cv, Val.vv])) (.bool _) Vv
     ·
      refine qT V V V V <| qS V <| qS V <| qS V <| qP V V V V <| qA V V V <| qN <| zI ?_
      exact zR (.inr V) zI1 V (.of_eq (by congr 1; rw [zH]; simp_all [bareF, numsK, textsK, clocksK, valuesK, Val.nv, Val.mv, Val.sv, Val.cv, Val.vv])) (.bool _) Vv
    ·
     refine qT V V V V <| qS V <| qS V <| qS V <| qP V V V V <| qM V V V <| qT V V V V <| qS V <| qS V <| qS V <| qP V V V V <| qA V V V <| qN <| zI ?_
     exact zR (.inr V) zI1 V (.of_eq (by congr 1; rw [zH]; simp_all [bareF, numsK, textsK, clocksK, valuesK, Val.nv, Val.mv, Val.sv, Val.cv, Val.vv])) (.bool _) Vv
   ·
    refine qT V V V V <| qS V <| qS V <| qS V <| qP V V V V <| qM V V V <| qT V V V V <| qS V <| qS V <| qS V <| qP V V V V <| qM V V V <| qT V V V V <| qS V <| qS V <| qS V <| qP V V V V ?_
    refine qA V V V <| qN <| zI ?_
    exact zR (.inr V) zI1 V (.of_eq (by congr 1; rw [zH]; simp_all [bareF, numsK, textsK, clocksK, valuesK, Val.nv, Val.mv, Val.sv, Val.cv, Val.vv])) (.bool _) Vv
  ·
   refine qT V V V V <| qS V <| qS V <| qS V <| qP V V V V <| qM V V V <| qT V V V V <| qS V <| qS V <| qS V <| qP V V V V <| qM V V V <| qT V V V V <| qS V <| qS V <| qS V <| qP V V V V ?_
   refine qM V V V <| qT V V V V <| qS V <| qS V <| qS V <| qP V V V V <| qA V V V <| qN <| zI ?_
   exact zR (.inr V) zI1 V (.of_eq (by congr 1; rw [zH]; simp_all [bareF, numsK, textsK, clocksK, valuesK, Val.nv, Val.mv, Val.sv, Val.cv, Val.vv])) (.bool _) Vv
 ·
  refine zM zI5 V zS5 (zA V) ?_
  refine zB <| qR V <| qB V V V V V <| qA V V V <| qN <| zB <| qR V <| qM V V V <| qC V V V V V <| qM V V V <| qM V V V <| qC V V V V V <| qP V V V V <| qM V V V <| qM V V V <| qC V V V V V <| qP V V V V <| qA V V V ?_
  refine qN <| zB <| qR V <| qM V V V <| qC V V V V V <| qM V V V <| qM V V V <| qC V V V V V <| qP V V V V <| qM V V V <| qM V V V <| qC V V V V V <| qP V V V V <| qA V V V <| qN <| zB <| qR V <| qM V V V ?_
  refine qC V V V V V <| qM V V V <| qM V V V <| qC V V V V V <| qP V V V V <| qA V V V <| qN <| zB <| qR V <| qM V V V <| qC V V V V V <| qM V V V <| qM V V V <| qC V V V V V <| qP V V V V <| qM V V V <| qM V V V ?_
  refine qC V V V V V <| qP V V V V <| qA V V V <| qN <| zB <| qR V <| qM V V V <| qM V V V <| qS V <| qS V <| qS V <| qP V V V V <| qM V V V <| qM V V V <| qC V V V V V <| qM V V V <| qS V <| qS V <| qS V <| qP V V V V ?_
  refine qP V V V V <| qM V V V <| qM V V V <| qM V V V <| qT V V V V <| qP V V V V <| qP V V V V <| qM V V V <| qM V V V <| qM V V V <| qF V V V zT2 <| qL V V V V ta24 V <| qE V V zE0 V <| qC V V V V V ?_
  refine qP V V V V <| qP V V V V <| qM V V V ?_
  refine zZ (fun h78 => ?_) (fun h78 => ?_)
  ·
   refine qM V V V <| qM V V V <| qF V V V zI2 <| qL V V V V ta25 V <| qE V V zI0 V ?_
   try rw [zU0]
   refine qC V V V V V <| qP V V V V <| qP V V V V <| qA V V V <| qN <| zI ?_
   exact zR (.inr V) zI1 V (.of_eq (by congr 1; rw [zH]; simp_all [bareF, numsK, textsK, clocksK, valuesK, Val.nv, Val.mv, Val.sv, Val.cv, Val.vv])) (.bool _) Vv
  ·
   refine qT V V V V <| qS V <| qS V <| qS V <| qP V V V V <| qA V V V <| qN <| zI ?_
   exact zR (.inr V) zI1 V (.of_eq (by congr 1; rw [zH]; simp_all [bareF, numsK, textsK, clocksK, valuesK, Val.nv, Val.mv, Val.sv, Val.cv, Val.vv])) (.bool _) Vv
 ·
  refine zM zI5 V zS5 (zA V) ?_
  refine zB <| qR V <| qB V V V V V <| qA V V V <| qN <| zB <| qR V <| qM V V V <| qC V V V V V <| qM V V V <| qM V V V <| qC V V V V V <| qP V V V V <| qM V V V <| qM V V V <| qC V V V V V <| qP V V V V <| qA V V V ?_
  refine qN <| zB <| qR V <| qM V V V <| qC V V V V V <| qM V V V <| qM V V V <| qC V V V V V <| qP V V V V <| qM V V V <| qM V V V <| qC V V V V V <| qP V V V V <| qA V V V <| qN <| zB <| qR V <| qM V V V ?_
  refine qC V V V V V <| qM V V V <| qS V <| qS V <| qP V V V V <| qA V V V <| qN <| zB <| qR V <| qM V V V <| qC V V V V V <| qM V V V <| qM V V V <| qC V V V V V <| qP V V V V <| qM V V V <| qM V V V <| qC V V V V V ?_
  refine qP V V V V <| qA V V V <| qN <| zB <| qR V <| qM V V V <| qM V V V <| qF V V V zC5 <| qL V V V V ta22 V <| qC V V V V V <| qP V V V V <| qM V V V ?_
  refine zZ (fun h51 => ?_) (fun h51 => ?_)
  ·
   refine qM V V V <| qC V V V V V <| qM V V V <| qF V V V zI6 <| qL V V V V ta22 V <| qC V V V V V <| qP V V V V <| qP V V V V <| qM V V V ?_
   refine zZ (fun h60 => ?_) (fun h60 => ?_)
   ·
    refine qM V V V <| qM V V V <| qF V V V zC3 <| qL V V V V ta23 V <| qE V V zB0 V <| qC V V V V V <| qP V V V V <| qP V V V V <| qM V V V ?_
    refine zZ (fun h69 => ?_) (fun h69 => ?_)
    ·
     refine qM V V V <| qM V V V <| qT V V V V <| qP V V V V <| qP V V V V <| qM V V V <| qM V V V <| qM V V V <| qF V V V zI2 <| qL V V V V ta25 V <| qE V V zI0 V ?_
     try rw [zU0]
     refine qC V V V V V <| qP V V V V <| qP V V V V <| qA V V V <| qN <| zI ?_
     exact zR (.inr V) zI1 V (.of_eq (by congr 1; rw [zH]; simp_all [bareF, numsK, textsK, clocksK, valuesK, Val.nv, Val.mv, Val.sv, Val.cv, Val.vv])) (.bool _) Vv
    ·
     refine qT V V V V <| qS V <| qS V <| qS V <| qP V V V V <| qM V V V <| qT V V V V <| qS V <| qS V <| qS V <| qP V V V V <| qA V V V <| qN <| zI ?_
     exact zR (.inr V) zI1 V (.of_eq (by congr 1; rw [zH]; simp_all [bareF, numsK, textsK, clocksK, valuesK, Val.nv, Val.mv, Val.sv, Val.cv, Val.vv])) (.bool _) Vv
   ·
    refine qT V V V V <| qS V <| qS V <| qS V <| qP V V V V <| qM V V V <| qT V V V V <| qS V <| qS V <| qS V <| qP V V V V <| qM V V V <| qT V V V V <| qS V <| qS V <| qS V <| qP V V V V ?_
    refine qA V V V <| qN <| zI ?_
    exact zR (.inr V) zI1 V (.of_eq (by congr 1; rw [zH]; simp_all [bareF, numsK, textsK, clocksK, valuesK, Val.nv, Val.mv, Val.sv, Val.cv, Val.vv])) (.bool _) Vv
  ·
   refine qT V V V V <| qS V <| qS V <| qS V <| qP V V V V <| qM V V V <| qT V V V V <| qS V <| qS V <| qS V <| qP V V V V <| qM V V V <| qT V V V V <| qS V <| qS V <| qS V <| qP V V V V ?_
   refine qM V V V <| qT V V V V <| qS V <| qS V <| qS V <| qP V V V V <| qA V V V <| qN <| zI ?_
   exact zR (.inr V) zI1 V (.of_eq (by congr 1; rw [zH]; simp_all [bareF, numsK, textsK, clocksK, valuesK, Val.nv, Val.mv, Val.sv, Val.cv, Val.vv])) (.bool _) Vv
 ·
  refine zM zI5 V zS5 (zA V) ?_
  refine zB <| qR V <| qB V V V V V <| qA V V V <| qN <| zB <| qR V <| qM V V V <| qC V V V V V <| qM V V V <| qM V V V <| qC V V V V V <| qP V V V V <| qM V V V <| qM V V V <| qC V V V V V <| qP V V V V <| qA V V V ?_
  refine qN <| zB <| qR V <| qM V V V <| qC V V V V V <| qM V V V <| qM V V V <| qC V V V V V <| qP V V V V <| qM V V V <| qM V V V <| qC V V V V V <| qP V V V V <| qA V V V <| qN <| zB <| qR V <| qM V V V ?_
  refine qC V V V V V <| qM V V V <| qM V V V <| qC V V V V V <| qP V V V V <| qA V V V <| qN <| zB <| qR V <| qM V V V <| qC V V V V V <| qM V V V <| qM V V V <| qC V V V V V <| qP V V V V <| qM V V V <| qM V V V ?_
  refine qC V V V V V <| qP V V V V <| qA V V V <| qN <| zB <| qR V <| qM V V V <| qM V V V <| qF V V V zC5 <| qL V V V V ta22 V <| qC V V V V V <| qP V V V V <| qM V V V ?_
  refine zZ (fun h51 => ?_) (fun h51 => ?_)
  ·
   refine qM V V V <| qC V V V V V <| qM V V V <| qF V V V zI6 <| qL V V V V ta22 V <| qC V V V V V <| qP V V V V <| qP V V V V <| qM V V V ?_
   refine zZ (fun h60 => ?_) (fun h60 => ?_)
   ·
    refine qM V V V <| qM V V V <| qF V V V zC3 <| qL V V V V ta23 V <| qE V V zB0 V <| qC V V V V V <| qP V V V V <| qP V V V V <| qM V V V ?_
    refine zZ (fun h69 => ?_) (fun h69 => ?_)
    ·
     refine qM V V V <| qM V V V <| qT V V V V <| qP V V V V <| qP V V V V <| qM V V V <| qM V V V <| qM V V V <| qT V V V V <| qP V V V V <| qP V V V V <| qA V V V <| qN <| zI ?_
     exact zR (.inr V) zI1 V (.of_eq (by congr 1; rw [zH]; simp_all [bareF, numsK, textsK, clocksK, valuesK, Val.nv, Val.mv, Val.sv, Val.cv, Val.vv])) (.bool _) Vv
    ·
     refine qT V V V V <| qS V <| qS V <| qS V <| qP V V V V <| qM V V V <| qT V V V V <| qS V <| qS V <| qS V <| qP V V V V <| qA V V V <| qN <| zI ?_
     exact zR (.inr V) zI1 V (.of_eq (by congr 1; rw [zH]; simp_all [bareF, numsK, textsK, clocksK, valuesK, Val.nv, Val.mv, Val.sv, Val.cv, Val.vv])) (.bool _) Vv
   ·
    refine qT V V V V <| qS V <| qS V <| qS V <| qP V V V V <| qM V V V <| qT V V V V <| qS V <| qS V <| qS V <| qP V V V V <| qM V V V <| qT V V V V <| qS V <| qS V <| qS V <| qP V V V V ?_
    refine qA V V V <| qN <| zI ?_
    exact zR (.inr V) zI1 V (.of_eq (by congr 1; rw [zH]; simp_all [bareF, numsK, textsK, clocksK, valuesK, Val.nv, Val.mv, Val.sv, Val.cv, Val.vv])) (.bool _) Vv
  ·
   refine qT V V V V <| qS V <| qS V <| qS V <| qP V V V V <| qM V V V <| qT V V V V <| qS V <| qS V <| qS V <| qP V V V V <| qM V V V <| qT V V V V <| qS V <| qS V <| qS V <| qP V V V V ?_
   refine qM V V V <| qT V V V V <| qS V <| qS V <| qS V <| qP V V V V <| qA V V V <| qN <| zI ?_
   exact zR (.inr V) zI1 V (.of_eq (by congr 1; rw [zH]; simp_all [bareF, numsK, textsK, clocksK, valuesK, Val.nv, Val.mv, Val.sv, Val.cv, Val.vv])) (.bool _) Vv
theorem _root_.zB7 : type_of% @bare_spec := @bare_spec
theorem is1v_spec (k k1 : Int) (i1 rest : List Sch) (f : Val → Bool) (ih : ∀ x, okV x → ∀ S : MS, MCalls Tryz.prog 165 [encS (.mk k1 i1), encV x] S fun v σ' => v = .bool (f x) ∧ σ' = S) (x : Val) (hx : okV x) (id : Nat) (S : MS) (hS : S[id]? = some (.cells [.int .i64 k, .lst none 2 (encSs (.mk k1 i1 :: rest))])) : MCalls Tryz.prog 206 [encV x, .ref id 0] S fun v σ' => v = .bool (f x) ∧ σ' = S := by
 obtain ⟨n, m, s, c, w⟩ := x
 refine zM Tryz.func206 V Tryz.ntmps206 (zA V) ?_
 refine zB <| qR V <| qB V V V V V <| qA V V V <| qN <| zB ?_
 refine zX0 [] [_] mo (by decide) V V V V ?_
 refine dO V V V (zE V V zS3 Vv) <| dO V V V (zP1 V V hS ta51 V Vv) <| dO V V V (zK V zQ0 sz53 (by decide) V V V (show _ = some (encS (.mk k1 i1)) from V) Vv) ?_
 refine dO V V V (zO V V ta53 V Vv) <| dO V V V (zO0 V V V ta27 V Vv) <| zU V V (.cons (zD1 V V V co165 (ih (.mk n m s c w) hx _)) .nil) <| dO V V V (zF1 V V Vv) <| zP0 <| zI ?_
 exact zR (.inr V) Tryz.results206 V (.of_eq (V)) (.bool _) Vv
theorem is2v_spec (k k1 : Int) (i1 rest : List Sch) (f : Val → Bool) (ih : ∀ x, okV x → ∀ S : MS, MCalls Tryz.prog 165 [encS (.mk k1 i1), encV x] S fun v σ' => v = .bool (f x) ∧ σ' = S) (x : Val) (hx : okV x) (ida ids : Nat) (S : MS) (hA : S[ida]? = some (.cells [.fn (.func 206) [] [.ref ids 0]])) (hS : S[ids]? = some (.cells [.int .i64 k, .lst none 2 (encSs (.mk k1 i1 :: rest))])) : MCalls Tryz.prog 209 [encV x, .ref ida 0, .ref ids 0] S fun v σ' => v = .bool (!f x || noneF (.mk k1 i1) x) ∧ σ' = S := by
 obtain ⟨n, m, s, c, w⟩ := x
 refine zM Tryz.func209 V Tryz.ntmps209 (zA V) ?_
 refine zB <| qR V <| qB V V V V V <| qA V V V <| qN <| zB ?_
 refine zX0 [] [_] mo (by decide) V V V V ?_
 refine zU V V (.cons (zP1 V V hA ta286 V Vv) .nil) ?_
 refine dO V V V (zO0 V V V ta27 V Vv) <| zU V V (.cons (zD1 V V V co206 (is1v_spec k k1 i1 rest f ih (.mk n m s c w) hx ids _ (zS hS))) .nil) <| dO V V V (zC1 V V Vv) <| dO V V V (zY V V Vv) ?_
 refine zT3 (fun h9 => ?_) (fun h9 => ?_)
 ·
  refine dS V V <| dS V V <| dS V V <| dS V V <| dS V V <| dS V V <| dO V V V (zO1 V V V Vv) <| dO V V V (zF1 V V Vv) <| zP0 <| zI ?_
  exact zR (.inr V) Tryz.results209 V (.of_eq (by simp_all)) (.bool _) Vv
 ·
  refine dO V V V (zE V V zS3 Vv) <| dO V V V (zP1 V V hS ta51 V Vv) <| dO V V V (zK V zQ0 sz53 (by decide) V V V (show _ = some (encS (.mk k1 i1)) from V) Vv) ?_
  refine dO V V V (zO V V ta53 V Vv) <| dO V V V (zO0 V V V ta27 V Vv) <| zU V V (.cons (zD1 V V V co119 (None_spec (.mk k1 i1) (.mk n m s c w) _)) .nil) <| dO V V V (zO1 V V V Vv) <| dO V V V (zF1 V V Vv) <| zP0 <| zI ?_
  exact zR (.inr V) Tryz.results209 V (.of_eq (by simp_all)) (.bool _) Vv
theorem is3v_spec (k k1 : Int) (i1 rest : List Sch) (f : Val → Bool) (ih : ∀ x, okV x → ∀ S : MS, MCalls Tryz.prog 165 [encS (.mk k1 i1), encV x] S fun v σ' => v = .bool (f x) ∧ σ' = S) (x : Val) (hx : okV x) (ida ids : Nat) (S : MS) (hA : S[ida]? = some (.cells [.fn (.func 206) [] [.ref ids 0]])) (hS : S[ids]? = some (.cells [.int .i64 k, .lst none 2 (encSs (.mk k1 i1 :: rest))])) : MCalls Tryz.prog 213 [encV x, .ref ida 0] S fun v σ' => v = .bool (!f x) ∧ σ' = S := by
 obtain ⟨n, m, s, c, w⟩ := x
 refine zM Tryz.func213 V Tryz.ntmps213 (zA V) ?_
 refine zB <| qR V <| qB V V V V V <| qA V V V <| qN <| zB <| qR V <| qO V <| zP1 V V hA ta286 V <| qL V V V V ta27 V ?_
 refine qX V V V V co206 (is1v_spec k k1 i1 rest f ih (.mk n m s c w) hx ids _ (zS hS)) ?_
 refine qO V <| zC1 V V <| qA V V V <| qN <| zI ?_
 exact zR (.inr V) Tryz.results213 V (.of_eq (V)) (.bool _) Vv
theorem _root_.zT5 : type_of% @Tryz.ntmps165 := @Tryz.ntmps165
theorem _root_.zY0 : type_of% @Tryz.results165 := @Tryz.results165
theorem isV_spec (d : Nat) : ∀ (s : Sch), isF d s = true → ∀ x : Val, okV x → ∀ S : MS, MCalls Tryz.prog 165 [encS s, encV x] S fun v σ' => v = .bool (isVF s x) ∧ σ' = S := by
 induction d with
 | zero => intro s h; simp [isF] at h
 | succ d ih =>
 rintro ⟨k, ins⟩ hd ⟨n, m, s, c, w⟩ hv S
 rw [isF] at hd
 simp only [Bool.and_eq_true, List.all_eq_true, beq_iff_eq] at hd
 simp only [okV] at hv
 have hvs := okVs_iff.1 hv.2.2.2
 rcases k8_of hd.1 with rfl | rfl | rfl | rfl | rfl | rfl | rfl | rfl
 ·
  refine zM zH5 V zT5 (zA V) ?_
  refine zB <| qR V <| qB V V V V V <| qB V V V V V <| qA V V V <| qN <| zB <| zB <| qR V <| qF V V V zJ2 <| qL V V V V ta3 V <| qL V V V V ta27 V ?_
  refine qX V V V V co205 (zB7 1 (by omega) n m s c w _) ?_
  refine qO V <| zC1 V V <| qM V V V ?_
  refine zZ (fun h11 => ?_) (fun h11 => ?_)
  ·
   refine qT V V V V <| qP V V V V <| qM V V V <| qT V V V V <| qP V V V V <| qN <| zT V (V) <| zB <| qR V <| qA V V V <| qN <| zI ?_
   exact zR (.inr V) zY0 V (.of_eq (by rw [zM2 1]; congr 1; symm; first | (rw [show bareF 1 _ = false by simpa using h11]; rfl) | (rw [w40f]; simp; done) | (rw [c40f]; simp; done))) (.bool _) Vv
  ·
   refine qF V V V zI2 <| qL V V V V ta25 V <| qE V V zI0 V <| qC V V V V V <| qP V V V V <| qM V V V ?_
   refine zZ (fun h17 => ?_) (fun h17 => ?_)
   ·
    have w40f := decide_eq_false (by rw [zU0] at h17; simp at h17; omega : ¬ w.length ≤ 40)
    refine qT V V V V <| qP V V V V <| qN <| zT V (V) <| zB <| qR V <| qA V V V <| qN <| zI ?_
    exact zR (.inr V) zY0 V (.of_eq (by rw [zM2 1]; congr 1; symm; first | (rw [show bareF 1 _ = false by simpa using h11]; rfl) | (rw [w40f]; simp; done) | (rw [c40f]; simp; done))) (.bool _) Vv
   ·
    have w40t := decide_eq_true (by rw [zU0] at h17; simp at h17; omega : w.length ≤ 40)
    refine qF V V V zT2 <| qL V V V V ta24 V <| qE V V zE0 V <| qC V V V V V <| qP V V V V <| qN ?_
    refine zJ V (fun h22 => ?_) (fun h22 => ?_)
    ·
     have c40f := decide_eq_false (by rw [zF] at h22; simp at h22; omega : ¬ c.length ≤ 40)
     refine zB <| qR V <| qA V V V <| qN <| zI ?_
     exact zR (.inr V) zY0 V (.of_eq (by rw [zM2 1]; congr 1; symm; first | (rw [show bareF 1 _ = false by simpa using h11]; rfl) | (rw [w40f]; simp; done) | (rw [c40f]; simp; done))) (.bool _) Vv
    ·
     have c40t := decide_eq_true (by rw [zF] at h22; simp at h22; omega : c.length ≤ 40)
     refine zQ <| zB <| qR V <| qO V <| zO2 V V V <| qO V <| zN0 V zm286 V V <| qO V <| zC0 V V V V sz286 V V (zA V) V <| qN <| zB <| zB <| qR V <| qF V V V zJ2 <| qL V V V V ta3 V <| qN <| zX <| zB <| qR V <| qC V V V V V <| qA V V V <| qN <| zT V (V) <| zB <| qR V <| qA V V V ?_
     refine qN <| zI ?_
     exact zR (.inr V) zY0 V (.of_eq (by rw [zM2 1]; rw [show bareF 1 _ = true by simpa using h11, w40t, c40t]; simp only [Bool.true_and, isVL, List.headD_cons, List.tail_cons]; rfl)) (.bool _) Vv
 ·
  refine zM zH5 V zT5 (zA V) ?_
  refine zB <| qR V <| qB V V V V V <| qB V V V V V <| qA V V V <| qN <| zB <| zB <| qR V <| qF V V V zJ2 <| qL V V V V ta3 V <| qL V V V V ta27 V ?_
  refine qX V V V V co205 (zB7 2 (by omega) n m s c w _) ?_
  refine qO V <| zC1 V V <| qM V V V ?_
  refine zZ (fun h11 => ?_) (fun h11 => ?_)
  ·
   refine qT V V V V <| qP V V V V <| qM V V V <| qT V V V V <| qP V V V V <| qN <| zT V (V) <| zB <| qR V <| qA V V V <| qN <| zI ?_
   exact zR (.inr V) zY0 V (.of_eq (by rw [zM2 2]; congr 1; symm; first | (rw [show bareF 2 _ = false by simpa using h11]; rfl) | (rw [w40f]; simp; done) | (rw [c40f]; simp; done))) (.bool _) Vv
  ·
   refine qF V V V zI2 <| qL V V V V ta25 V <| qE V V zI0 V <| qC V V V V V <| qP V V V V <| qM V V V ?_
   refine zZ (fun h17 => ?_) (fun h17 => ?_)
   ·
    have w40f := decide_eq_false (by rw [zU0] at h17; simp at h17; omega : ¬ w.length ≤ 40)
    refine qT V V V V <| qP V V V V <| qN <| zT V (V) <| zB <| qR V <| qA V V V <| qN <| zI ?_
    exact zR (.inr V) zY0 V (.of_eq (by rw [zM2 2]; congr 1; symm; first | (rw [show bareF 2 _ = false by simpa using h11]; rfl) | (rw [w40f]; simp; done) | (rw [c40f]; simp; done))) (.bool _) Vv
   ·
    have w40t := decide_eq_true (by rw [zU0] at h17; simp at h17; omega : w.length ≤ 40)
    refine qF V V V zT2 <| qL V V V V ta24 V <| qE V V zE0 V <| qC V V V V V <| qP V V V V <| qN ?_
    refine zJ V (fun h22 => ?_) (fun h22 => ?_)
    ·
     have c40f := decide_eq_false (by rw [zF] at h22; simp at h22; omega : ¬ c.length ≤ 40)
     refine zB <| qR V <| qA V V V <| qN <| zI ?_
     exact zR (.inr V) zY0 V (.of_eq (by rw [zM2 2]; congr 1; symm; first | (rw [show bareF 2 _ = false by simpa using h11]; rfl) | (rw [w40f]; simp; done) | (rw [c40f]; simp; done))) (.bool _) Vv
    ·
     have c40t := decide_eq_true (by rw [zF] at h22; simp at h22; omega : c.length ≤ 40)
     refine zQ <| zB <| qR V <| qO V <| zO2 V V V <| qO V <| zN0 V zm286 V V <| qO V <| zC0 V V V V sz286 V V (zA V) V <| qN <| zB <| zB <| qR V <| qF V V V zJ2 <| qL V V V V ta3 V <| qN <| zX <| zB <| qR V <| qC V V V V V <| qA V V V <| qN <| zL V (V) <| zB <| qR V <| qC V V V V V ?_
     refine qA V V V <| qN <| zT V (V) <| zB <| qR V <| qF V V V zC5 <| qL V V V V ta22 V <| qC V V V V V <| qA V V V <| qN <| zI ?_
     exact zR (.inr V) zY0 V (.of_eq (by rw [zM2 2]; rw [show bareF 2 _ = true by simpa using h11, w40t, c40t]; simp only [Bool.true_and, isVL, List.headD_cons, List.tail_cons]; rfl)) (.bool _) Vv
 ·
  refine zM zH5 V zT5 (zA V) ?_
  refine zB <| qR V <| qB V V V V V <| qB V V V V V <| qA V V V <| qN <| zB <| zB <| qR V <| qF V V V zJ2 <| qL V V V V ta3 V <| qL V V V V ta27 V ?_
  refine qX V V V V co205 (zB7 3 (by omega) n m s c w _) ?_
  refine qO V <| zC1 V V <| qM V V V ?_
  refine zZ (fun h11 => ?_) (fun h11 => ?_)
  ·
   refine qT V V V V <| qP V V V V <| qM V V V <| qT V V V V <| qP V V V V <| qN <| zT V (V) <| zB <| qR V <| qA V V V <| qN <| zI ?_
   exact zR (.inr V) zY0 V (.of_eq (by rw [zM2 3]; congr 1; symm; first | (rw [show bareF 3 _ = false by simpa using h11]; rfl) | (rw [w40f]; simp; done) | (rw [c40f]; simp; done))) (.bool _) Vv
  ·
   refine qF V V V zI2 <| qL V V V V ta25 V <| qE V V zI0 V <| qC V V V V V <| qP V V V V <| qM V V V ?_
   refine zZ (fun h17 => ?_) (fun h17 => ?_)
   ·
    have w40f := decide_eq_false (by rw [zU0] at h17; simp at h17; omega : ¬ w.length ≤ 40)
    refine qT V V V V <| qP V V V V <| qN <| zT V (V) <| zB <| qR V <| qA V V V <| qN <| zI ?_
    exact zR (.inr V) zY0 V (.of_eq (by rw [zM2 3]; congr 1; symm; first | (rw [show bareF 3 _ = false by simpa using h11]; rfl) | (rw [w40f]; simp; done) | (rw [c40f]; simp; done))) (.bool _) Vv
   ·
    have w40t := decide_eq_true (by rw [zU0] at h17; simp at h17; omega : w.length ≤ 40)
    refine qF V V V zT2 <| qL V V V V ta24 V <| qE V V zE0 V <| qC V V V V V <| qP V V V V <| qN ?_
    refine zJ V (fun h22 => ?_) (fun h22 => ?_)
    ·
     have c40f := decide_eq_false (by rw [zF] at h22; simp at h22; omega : ¬ c.length ≤ 40)
     refine zB <| qR V <| qA V V V <| qN <| zI ?_
     exact zR (.inr V) zY0 V (.of_eq (by rw [zM2 3]; congr 1; symm; first | (rw [show bareF 3 _ = false by simpa using h11]; rfl) | (rw [w40f]; simp; done) | (rw [c40f]; simp; done))) (.bool _) Vv
    ·
     have c40t := decide_eq_true (by rw [zF] at h22; simp at h22; omega : c.length ≤ 40)
     refine zQ <| zB <| qR V <| qO V <| zO2 V V V <| qO V <| zN0 V zm286 V V <| qO V <| zC0 V V V V sz286 V V (zA V) V <| qN <| zB <| zB <| qR V <| qF V V V zJ2 <| qL V V V V ta3 V <| qN <| zX <| zB <| qR V <| qC V V V V V <| qA V V V <| qN <| zL V (V) <| zB <| qR V <| qC V V V V V ?_
     refine qA V V V <| qN <| zL V (V) <| zB <| qR V <| qC V V V V V <| qA V V V <| qN <| zT V (V) <| zB <| qR V <| qF V V V zC3 <| qL V V V V ta23 V ?_
     refine qX V V V V co207 (isRow_spec s _) ?_
     refine qA V V V <| qN <| zI ?_
     exact zR (.inr V) zY0 V (.of_eq (by rw [zM2 3]; rw [show bareF 3 _ = true by simpa using h11, w40t, c40t]; simp only [Bool.true_and, isVL, List.headD_cons, List.tail_cons]; rfl)) (.bool _) Vv
 ·
  obtain ⟨⟨k1, i1⟩, rfl⟩ := one_ins hd.1 (by decide)
  have ih1 := ih (.mk k1 i1) (hd.2 _ (by simp))
  refine zM zH5 V zT5 (zA V) ?_
  refine zB <| qR V <| qB V V V V V <| qB V V V V V <| qA V V V <| qN <| zB <| zB <| qR V <| qF V V V zJ2 <| qL V V V V ta3 V <| qL V V V V ta27 V ?_
  refine qX V V V V co205 (zB7 4 (by omega) n m s c w _) ?_
  refine qO V <| zC1 V V <| qM V V V ?_
  refine zZ (fun h11 => ?_) (fun h11 => ?_)
  ·
   refine qT V V V V <| qP V V V V <| qM V V V <| qT V V V V <| qP V V V V <| qN <| zT V (V) <| zB <| qR V <| qA V V V <| qN <| zI ?_
   exact zR (.inr V) zY0 V (.of_eq (by rw [zM2 4]; congr 1; symm; first | (rw [show bareF 4 _ = false by simpa using h11]; rfl) | (rw [w40f]; simp; done) | (rw [c40f]; simp; done))) (.bool _) Vv
  ·
   refine qF V V V zI2 <| qL V V V V ta25 V <| qE V V zI0 V <| qC V V V V V <| qP V V V V <| qM V V V ?_
   refine zZ (fun h17 => ?_) (fun h17 => ?_)
   ·
    have w40f := decide_eq_false (by rw [zU0] at h17; simp at h17; omega : ¬ w.length ≤ 40)
    refine qT V V V V <| qP V V V V <| qN <| zT V (V) <| zB <| qR V <| qA V V V <| qN <| zI ?_
    exact zR (.inr V) zY0 V (.of_eq (by rw [zM2 4]; congr 1; symm; first | (rw [show bareF 4 _ = false by simpa using h11]; rfl) | (rw [w40f]; simp; done) | (rw [c40f]; simp; done))) (.bool _) Vv
   ·
    have w40t := decide_eq_true (by rw [zU0] at h17; simp at h17; omega : w.length ≤ 40)
    refine qF V V V zT2 <| qL V V V V ta24 V <| qE V V zE0 V <| qC V V V V V <| qP V V V V <| qN ?_
    refine zJ V (fun h22 => ?_) (fun h22 => ?_)
    ·
     have c40f := decide_eq_false (by rw [zF] at h22; simp at h22; omega : ¬ c.length ≤ 40)
     refine zB <| qR V <| qA V V V <| qN <| zI ?_
     exact zR (.inr V) zY0 V (.of_eq (by rw [zM2 4]; congr 1; symm; first | (rw [show bareF 4 _ = false by simpa using h11]; rfl) | (rw [w40f]; simp; done) | (rw [c40f]; simp; done))) (.bool _) Vv
    ·
     have c40t := decide_eq_true (by rw [zF] at h22; simp at h22; omega : c.length ≤ 40)
     refine zQ <| zB <| qR V <| qO V <| zO2 V V V <| qO V <| zN0 V zm286 V V <| qO V <| zC0 V V V V sz286 V V (zA V) V <| qN <| zB <| zB <| qR V <| qF V V V zJ2 <| qL V V V V ta3 V <| qN <| zX <| zB <| qR V <| qC V V V V V <| qA V V V <| qN <| zL V (V) <| zB <| qR V <| qC V V V V V ?_
     refine qA V V V <| qN <| zL V (V) <| zB <| qR V <| qC V V V V V <| qA V V V <| qN <| zL V (V) <| zB <| qR V <| qC V V V V V <| qA V V V <| qN <| zT V (V) <| zB <| qR V <| qF V V V zC3 <| qL V V V V ta23 V ?_
     refine qX V V V V co207 (isRow_spec s _) ?_
     refine qM V V V ?_
     refine zZ (fun h43 => ?_) (fun h43 => ?_)
     ·
      refine qF V V V zC3 <| qL V V V V ta23 V <| qE V V zB0 V <| qF V V V zI2 <| qL V V V V ta25 V <| qE V V zI0 V <| qC V V V V V <| qP V V V V <| qM V V V ?_
      refine zZ (fun h52 => ?_) (fun h52 => ?_)
      ·
       have hsl : s.length = w.length := by rw [zF, zU0] at h52; simp at h52; omega
       refine qF V V V zI2 <| qL V V V V ta25 V <| qO V <| zO2 V V V ?_
       refine qX V V V V co208 (vContains_spec _ w (fun x => !isVF (.mk k1 i1) x || noneF (.mk k1 i1) x) _ [] [.ref (S.length + 2) 0, .ref (S.length + 0) 0] co209 (fun x hx X => is2v_spec 4 k1 i1 [] (isVF (.mk k1 i1)) ih1 x (hvs x hx) _ _ _ (zF5 (k := 2) V) (zF5 (k := 0) V))) ?_
       refine qO V <| zC1 V V <| qP V V V V <| qA V V V <| qN <| zI ?_
       exact zR (.inr V) zY0 V (.of_eq (by rw [zM2 4]; rw [show bareF 4 _ = true by simpa using h11, w40t, c40t]; simp only [Bool.true_and, isVL, List.headD_cons, List.tail_cons]; congr 1; rw [zH]; simp_all [zU0, any_all])) (.bool _) Vv
      ·
       have hsl : ¬ s.length = w.length := by rw [zF, zU0] at h52; simp at h52; omega
       refine qT V V V V <| qS V <| qP V V V V <| qA V V V <| qN <| zI ?_
       exact zR (.inr V) zY0 V (.of_eq (by rw [zM2 4]; rw [show bareF 4 _ = true by simpa using h11, w40t, c40t]; simp only [Bool.true_and, isVL, List.headD_cons, List.tail_cons]; congr 1; rw [zH]; simp_all [zU0, any_all])) (.bool _) Vv
     ·
      refine qT V V V V <| qS V <| qS V <| qS V <| qP V V V V <| qM V V V <| qT V V V V <| qS V <| qP V V V V <| qA V V V <| qN <| zI ?_
      exact zR (.inr V) zY0 V (.of_eq (by rw [zM2 4]; rw [show bareF 4 _ = true by simpa using h11, w40t, c40t]; simp only [Bool.true_and, isVL, List.headD_cons, List.tail_cons]; congr 1; rw [zH]; simp_all [zU0, any_all])) (.bool _) Vv
 ·
  obtain ⟨⟨k1, i1⟩, ⟨k2, i2⟩, rfl⟩ := two_of hd.1
  have ih1 := ih (.mk k1 i1) (hd.2 _ (by simp))
  have ih2 := ih (.mk k2 i2) (hd.2 _ (by simp))
  refine zM zH5 V zT5 (zA V) ?_
  refine zB <| qR V <| qB V V V V V <| qB V V V V V <| qA V V V <| qN <| zB <| zB <| qR V <| qF V V V zJ2 <| qL V V V V ta3 V <| qL V V V V ta27 V ?_
  refine qX V V V V co205 (zB7 5 (by omega) n m s c w _) ?_
  refine qO V <| zC1 V V <| qM V V V ?_
  refine zZ (fun h11 => ?_) (fun h11 => ?_)
  ·
   refine qT V V V V <| qP V V V V <| qM V V V <| qT V V V V <| qP V V V V <| qN <| zT V (V) <| zB <| qR V <| qA V V V <| qN <| zI ?_
   exact zR (.inr V) zY0 V (.of_eq (by rw [zM2 5]; congr 1; symm; first | (rw [show bareF 5 _ = false by simpa using h11]; rfl) | (rw [w40f]; simp; done) | (rw [c40f]; simp; done))) (.bool _) Vv
  ·
   refine qF V V V zI2 <| qL V V V V ta25 V <| qE V V zI0 V <| qC V V V V V <| qP V V V V <| qM V V V ?_
   refine zZ (fun h17 => ?_) (fun h17 => ?_)
   ·
    have w40f := decide_eq_false (by rw [zU0] at h17; simp at h17; omega : ¬ w.length ≤ 40)
    refine qT V V V V <| qP V V V V <| qN <| zT V (V) <| zB <| qR V <| qA V V V <| qN <| zI ?_
    exact zR (.inr V) zY0 V (.of_eq (by rw [zM2 5]; congr 1; symm; first | (rw [show bareF 5 _ = false by simpa using h11]; rfl) | (rw [w40f]; simp; done) | (rw [c40f]; simp; done))) (.bool _) Vv
   ·
    have w40t := decide_eq_true (by rw [zU0] at h17; simp at h17; omega : w.length ≤ 40)
    refine qF V V V zT2 <| qL V V V V ta24 V <| qE V V zE0 V <| qC V V V V V <| qP V V V V <| qN ?_
    refine zJ V (fun h22 => ?_) (fun h22 => ?_)
    ·
     have c40f := decide_eq_false (by rw [zF] at h22; simp at h22; omega : ¬ c.length ≤ 40)
     refine zB <| qR V <| qA V V V <| qN <| zI ?_
     exact zR (.inr V) zY0 V (.of_eq (by rw [zM2 5]; congr 1; symm; first | (rw [show bareF 5 _ = false by simpa using h11]; rfl) | (rw [w40f]; simp; done) | (rw [c40f]; simp; done))) (.bool _) Vv
    ·
     have c40t := decide_eq_true (by rw [zF] at h22; simp at h22; omega : c.length ≤ 40)
     refine zQ <| zB <| qR V <| qO V <| zO2 V V V <| qO V <| zN0 V zm286 V V <| qO V <| zC0 V V V V sz286 V V (zA V) V <| qN <| zB <| zB <| qR V <| qF V V V zJ2 <| qL V V V V ta3 V <| qN <| zX <| zB <| qR V <| qC V V V V V <| qA V V V <| qN <| zL V (V) <| zB <| qR V <| qC V V V V V ?_
     refine qA V V V <| qN <| zL V (V) <| zB <| qR V <| qC V V V V V <| qA V V V <| qN <| zL V (V) <| zB <| qR V <| qC V V V V V <| qA V V V <| qN <| zL V (V) <| zB <| qR V <| qC V V V V V <| qA V V V <| qN <| zT V (V) <| zB ?_
     refine zX0 [] [_] mo (by decide) V V V V ?_
     refine dO V V V (zE V V zI2 Vv) <| dO V V V (zO0 V V V ta25 V Vv) <| dO V V V (zW1 V zI0 V Vv) <| dO V V V (zW2 V V V V Vv) <| dO V V V (zY V V Vv) ?_
     refine zT3 (fun h65 => ?_) (fun h65 => ?_)
     ·
      obtain ⟨⟨n1, m1, s1, c1, w1⟩, ⟨n2, m2, s2, c2, w2⟩, rfl⟩ := two_of' (by rw [zU0] at h65; simp at h65; omega : w.length = 2)
      refine dO V V V (zE V V zS3 Vv) <| dO V V V (zO0 V V V ta51 V Vv) <| dO V V V (zK V zQ0 sz53 (by decide) V V V (show _ = some (encS (.mk k1 i1)) from V) Vv) ?_
      refine dO V V V (zO V V ta53 V Vv) <| dO V V V (zE V V zI2 Vv) <| dO V V V (zO0 V V V ta25 V Vv) <| dO V V V (zK V zI0 sz27 (by decide) V V V (show _ = some (encV (.mk n1 m1 s1 c1 w1)) from V) Vv) ?_
      refine dO V V V (zO V V ta27 V Vv) <| zU V V (.cons (zD1 V V V co165 (ih1 (.mk n1 m1 s1 c1 w1) (hvs _ (by simp)) _)) .nil) ?_
      refine dO V V V (zO1 V V V Vv) <| dO V V V (zY V V Vv) ?_
      refine zT3 (fun h76 => ?_) (fun h76 => ?_)
      ·
       refine dO V V V (zE V V zS3 Vv) <| dO V V V (zO0 V V V ta51 V Vv) <| dO V V V (zK V zQ0 sz53 (by decide) V V V (show _ = some (encS (.mk k2 i2)) from V) Vv) ?_
       refine dO V V V (zO V V ta53 V Vv) <| dO V V V (zE V V zI2 Vv) <| dO V V V (zO0 V V V ta25 V Vv) <| dO V V V (zK V zI0 sz27 (by decide) V V V (show _ = some (encV (.mk n2 m2 s2 c2 w2)) from V) Vv) ?_
       refine dO V V V (zO V V ta27 V Vv) <| zU V V (.cons (zD1 V V V co165 (ih2 (.mk n2 m2 s2 c2 w2) (hvs _ (by simp)) _)) .nil) ?_
       refine dO V V V (zO1 V V V Vv) <| dO V V V (zF1 V V Vv) <| zP0 <| zI ?_
       exact zR (.inr V) zY0 V (.of_eq (by rw [zM2 5]; rw [show bareF 5 _ = true by simpa using h11, w40t, c40t]; simp only [Bool.true_and, isVL, List.headD_cons, List.tail_cons]; first | (congr 1; symm; rw [if_neg (by decide), if_neg (by decide), if_neg (by decide), if_neg (by decide), if_pos True.intro]; exact hm2) | (congr 1; rw [zH]; simp_all [zU0]))) (.bool _) Vv
      ·
       refine dS V V <| dS V V <| dS V V <| dS V V <| dS V V <| dS V V <| dS V V <| dS V V <| dS V V <| dO V V V (zO1 V V V Vv) <| dO V V V (zF1 V V Vv) <| zP0 <| zI ?_
       exact zR (.inr V) zY0 V (.of_eq (by rw [zM2 5]; rw [show bareF 5 _ = true by simpa using h11, w40t, c40t]; simp only [Bool.true_and, isVL, List.headD_cons, List.tail_cons]; first | (congr 1; symm; rw [if_neg (by decide), if_neg (by decide), if_neg (by decide), if_neg (by decide), if_pos True.intro]; exact hm2) | (congr 1; rw [zH]; simp_all [zU0]))) (.bool _) Vv
     ·
      have hm2 := match2_no (f := isVF (.mk k1 i1)) (g := isVF (.mk k2 i2)) (by rw [zU0] at h65; simp at h65; omega : w.length ≠ 2)
      refine dS V V <| dS V V <| dS V V <| dS V V <| dS V V <| dS V V <| dS V V <| dS V V <| dS V V <| dO V V V (zO1 V V V Vv) <| dO V V V (zY V V Vv) <| dS V V <| dS V V <| dS V V <| dS V V <| dS V V <| dS V V <| dS V V <| dS V V <| dS V V <| dO V V V (zO1 V V V Vv) <| dO V V V (zF1 V V Vv) <| zP0 <| zI ?_
      exact zR (.inr V) zY0 V (.of_eq (by rw [zM2 5]; rw [show bareF 5 _ = true by simpa using h11, w40t, c40t]; simp only [Bool.true_and, isVL, List.headD_cons, List.tail_cons]; first | (congr 1; symm; rw [if_neg (by decide), if_neg (by decide), if_neg (by decide), if_neg (by decide), if_pos True.intro]; exact hm2) | (congr 1; rw [zH]; simp_all [zU0]))) (.bool _) Vv
 ·
  refine zM zH5 V zT5 (zA V) ?_
  refine zB <| qR V <| qB V V V V V <| qB V V V V V <| qA V V V <| qN <| zB <| zB <| qR V <| qF V V V zJ2 <| qL V V V V ta3 V <| qL V V V V ta27 V ?_
  refine qX V V V V co205 (zB7 6 (by omega) n m s c w _) ?_
  refine qO V <| zC1 V V <| qM V V V ?_
  refine zZ (fun h11 => ?_) (fun h11 => ?_)
  ·
   refine qT V V V V <| qP V V V V <| qM V V V <| qT V V V V <| qP V V V V <| qN <| zT V (V) <| zB <| qR V <| qA V V V <| qN <| zI ?_
   exact zR (.inr V) zY0 V (.of_eq (by rw [zM2 6]; congr 1; symm; first | (rw [show bareF 6 _ = false by simpa using h11]; rfl) | (rw [w40f]; simp; done) | (rw [c40f]; simp; done))) (.bool _) Vv
  ·
   refine qF V V V zI2 <| qL V V V V ta25 V <| qE V V zI0 V <| qC V V V V V <| qP V V V V <| qM V V V ?_
   refine zZ (fun h17 => ?_) (fun h17 => ?_)
   ·
    have w40f := decide_eq_false (by rw [zU0] at h17; simp at h17; omega : ¬ w.length ≤ 40)
    refine qT V V V V <| qP V V V V <| qN <| zT V (V) <| zB <| qR V <| qA V V V <| qN <| zI ?_
    exact zR (.inr V) zY0 V (.of_eq (by rw [zM2 6]; congr 1; symm; first | (rw [show bareF 6 _ = false by simpa using h11]; rfl) | (rw [w40f]; simp; done) | (rw [c40f]; simp; done))) (.bool _) Vv
   ·
    have w40t := decide_eq_true (by rw [zU0] at h17; simp at h17; omega : w.length ≤ 40)
    refine qF V V V zT2 <| qL V V V V ta24 V <| qE V V zE0 V <| qC V V V V V <| qP V V V V <| qN ?_
    refine zJ V (fun h22 => ?_) (fun h22 => ?_)
    ·
     have c40f := decide_eq_false (by rw [zF] at h22; simp at h22; omega : ¬ c.length ≤ 40)
     refine zB <| qR V <| qA V V V <| qN <| zI ?_
     exact zR (.inr V) zY0 V (.of_eq (by rw [zM2 6]; congr 1; symm; first | (rw [show bareF 6 _ = false by simpa using h11]; rfl) | (rw [w40f]; simp; done) | (rw [c40f]; simp; done))) (.bool _) Vv
    ·
     have c40t := decide_eq_true (by rw [zF] at h22; simp at h22; omega : c.length ≤ 40)
     refine zQ <| zB <| qR V <| qO V <| zO2 V V V <| qO V <| zN0 V zm286 V V <| qO V <| zC0 V V V V sz286 V V (zA V) V <| qN <| zB <| zB <| qR V <| qF V V V zJ2 <| qL V V V V ta3 V <| qN <| zX <| zB <| qR V <| qC V V V V V <| qA V V V <| qN <| zL V (V) <| zB <| qR V <| qC V V V V V ?_
     refine qA V V V <| qN <| zL V (V) <| zB <| qR V <| qC V V V V V <| qA V V V <| qN <| zL V (V) <| zB <| qR V <| qC V V V V V <| qA V V V <| qN <| zL V (V) <| zB <| qR V <| qC V V V V V <| qA V V V <| qN <| zL V (V) <| zB <| qR V ?_
     refine qC V V V V V <| qA V V V <| qN <| zT V (V) <| zB <| qR V <| qL V V V V ta27 V ?_
     refine qX V V V V co210 (isLast_spec n m s c w hv.1.1 hv.2.1.1 _) ?_
     refine qA V V V <| qN <| zI ?_
     exact zR (.inr V) zY0 V (.of_eq (by rw [zM2 6]; rw [show bareF 6 _ = true by simpa using h11, w40t, c40t]; simp only [Bool.true_and, isVL, List.headD_cons, List.tail_cons]; rfl)) (.bool _) Vv
 ·
  refine zM zH5 V zT5 (zA V) ?_
  refine zB <| qR V <| qB V V V V V <| qB V V V V V <| qA V V V <| qN <| zB <| zB <| qR V <| qF V V V zJ2 <| qL V V V V ta3 V <| qL V V V V ta27 V ?_
  refine qX V V V V co205 (zB7 7 (by omega) n m s c w _) ?_
  refine qO V <| zC1 V V <| qM V V V ?_
  refine zZ (fun h11 => ?_) (fun h11 => ?_)
  ·
   refine qT V V V V <| qP V V V V <| qM V V V <| qT V V V V <| qP V V V V <| qN <| zT V (V) <| zB <| qR V <| qA V V V <| qN <| zI ?_
   exact zR (.inr V) zY0 V (.of_eq (by rw [zM2 7]; congr 1; symm; first | (rw [show bareF 7 _ = false by simpa using h11]; rfl) | (rw [w40f]; simp; done) | (rw [c40f]; simp; done))) (.bool _) Vv
  ·
   refine qF V V V zI2 <| qL V V V V ta25 V <| qE V V zI0 V <| qC V V V V V <| qP V V V V <| qM V V V ?_
   refine zZ (fun h17 => ?_) (fun h17 => ?_)
   ·
    have w40f := decide_eq_false (by rw [zU0] at h17; simp at h17; omega : ¬ w.length ≤ 40)
    refine qT V V V V <| qP V V V V <| qN <| zT V (V) <| zB <| qR V <| qA V V V <| qN <| zI ?_
    exact zR (.inr V) zY0 V (.of_eq (by rw [zM2 7]; congr 1; symm; first | (rw [show bareF 7 _ = false by simpa using h11]; rfl) | (rw [w40f]; simp; done) | (rw [c40f]; simp; done))) (.bool _) Vv
   ·
    have w40t := decide_eq_true (by rw [zU0] at h17; simp at h17; omega : w.length ≤ 40)
    refine qF V V V zT2 <| qL V V V V ta24 V <| qE V V zE0 V <| qC V V V V V <| qP V V V V <| qN ?_
    refine zJ V (fun h22 => ?_) (fun h22 => ?_)
    ·
     have c40f := decide_eq_false (by rw [zF] at h22; simp at h22; omega : ¬ c.length ≤ 40)
     refine zB <| qR V <| qA V V V <| qN <| zI ?_
     exact zR (.inr V) zY0 V (.of_eq (by rw [zM2 7]; congr 1; symm; first | (rw [show bareF 7 _ = false by simpa using h11]; rfl) | (rw [w40f]; simp; done) | (rw [c40f]; simp; done))) (.bool _) Vv
    ·
     have c40t := decide_eq_true (by rw [zF] at h22; simp at h22; omega : c.length ≤ 40)
     refine zQ <| zB <| qR V <| qO V <| zO2 V V V <| qO V <| zN0 V zm286 V V <| qO V <| zC0 V V V V sz286 V V (zA V) V <| qN <| zB <| zB <| qR V <| qF V V V zJ2 <| qL V V V V ta3 V <| qN <| zX <| zB <| qR V <| qC V V V V V <| qA V V V <| qN <| zL V (V) <| zB <| qR V <| qC V V V V V ?_
     refine qA V V V <| qN <| zL V (V) <| zB <| qR V <| qC V V V V V <| qA V V V <| qN <| zL V (V) <| zB <| qR V <| qC V V V V V <| qA V V V <| qN <| zL V (V) <| zB <| qR V <| qC V V V V V <| qA V V V <| qN <| zL V (V) <| zB <| qR V ?_
     refine qC V V V V V <| qA V V V <| qN <| zL V (V) <| zB <| qR V <| qC V V V V V <| qA V V V <| qN <| zT V (V) <| zB <| qR V <| qF V V V zT2 <| qL V V V V ta24 V <| qE V V zE0 V <| qC V V V V V <| qM V V V ?_
     refine zZ (fun h97 => ?_) (fun h97 => ?_)
     ·
      refine qT V V V V <| qT V V V V <| qT V V V V <| qT V V V V <| qS V <| qS V <| qS V <| qP V V V V <| qA V V V <| qN <| zI ?_
      exact zR (.inr V) zY0 V (.of_eq (by rw [zM2 7]; rw [show bareF 7 _ = true by simpa using h11, w40t, c40t]; simp only [Bool.true_and, isVL, List.headD_cons, List.tail_cons]; first | (congr 1; symm; rw [if_neg (by decide), if_neg (by decide), if_neg (by decide), if_neg (by decide), if_neg (by decide), if_neg (by decide), if_pos True.intro]; exact hm2) | (congr 1; rw [zH]; simp_all))) (.bool _) Vv
     ·
      have hc0 : ¬ c = [] := by simpa using h97
      refine qF V V V zT2 <| qL V V V V ta24 V <| qE V V zE0 V <| qC V V V V V <| qM V V V ?_
      refine zZ (fun h102 => ?_) (fun h102 => ?_)
      ·
       obtain ⟨c0, rfl⟩ := one_of (by rw [zF] at h102; simp at h102; omega : c.length = 1)
       refine qF V V V zT2 <| qL V V V V ta24 V <| qO V <| zK V zE0 sz202 (by decide) V V V (show _ = some (encC c0) from V) ?_
       refine qO V <| zO V V ta202 V <| qE V V zA0 V <| qC V V V V V <| qP V V V V <| qM V V V ?_
       refine zZ (fun h110 => ?_) (fun h110 => ?_)
       ·
        refine qF V V V zT2 <| qL V V V V ta24 V <| qO V <| zK V zE0 sz202 (by decide) V V V (show _ = some (encC c0) from V) ?_
        refine qO V <| zO V V ta202 V ?_
        refine qX V V V V co211 (clkIs_spec c0 _) ?_
        refine qP V V V V <| qP V V V V <| qA V V V <| qN <| zI ?_
        exact zR (.inr V) zY0 V (.of_eq (by rw [zM2 7]; rw [show bareF 7 _ = true by simpa using h11, w40t, c40t]; simp only [Bool.true_and, isVL, List.headD_cons, List.tail_cons]; first | (congr 1; symm; rw [if_neg (by decide), if_neg (by decide), if_neg (by decide), if_neg (by decide), if_neg (by decide), if_neg (by decide), if_pos True.intro]; exact hm2) | (congr 1; rw [zH]; simp_all))) (.bool _) Vv
       ·
        refine qT V V V V <| qS V <| qP V V V V <| qP V V V V <| qA V V V <| qN <| zI ?_
        exact zR (.inr V) zY0 V (.of_eq (by rw [zM2 7]; rw [show bareF 7 _ = true by simpa using h11, w40t, c40t]; simp only [Bool.true_and, isVL, List.headD_cons, List.tail_cons]; first | (congr 1; symm; rw [if_neg (by decide), if_neg (by decide), if_neg (by decide), if_neg (by decide), if_neg (by decide), if_neg (by decide), if_pos True.intro]; exact hm2) | (congr 1; rw [zH]; simp_all))) (.bool _) Vv
      ·
       have hm2 := match1_no hc0 (by rw [zF] at h102; simp at h102; omega : c.length ≠ 1)
       refine qT V V V V <| qS V <| qS V <| qP V V V V <| qM V V V <| qT V V V V <| qS V <| qP V V V V <| qP V V V V <| qA V V V <| qN <| zI ?_
       exact zR (.inr V) zY0 V (.of_eq (by rw [zM2 7]; rw [show bareF 7 _ = true by simpa using h11, w40t, c40t]; simp only [Bool.true_and, isVL, List.headD_cons, List.tail_cons]; first | (congr 1; symm; rw [if_neg (by decide), if_neg (by decide), if_neg (by decide), if_neg (by decide), if_neg (by decide), if_neg (by decide), if_pos True.intro]; exact hm2) | (congr 1; rw [zH]; simp_all))) (.bool _) Vv
 ·
  obtain ⟨⟨k1, i1⟩, rfl⟩ := one_ins hd.1 (by decide)
  have ih1 := ih (.mk k1 i1) (hd.2 _ (by simp))
  refine zM zH5 V zT5 (zA V) ?_
  refine zB <| qR V <| qB V V V V V <| qB V V V V V <| qA V V V <| qN <| zB <| zB <| qR V <| qF V V V zJ2 <| qL V V V V ta3 V <| qL V V V V ta27 V ?_
  refine qX V V V V co205 (zB7 8 (by omega) n m s c w _) ?_
  refine qO V <| zC1 V V <| qM V V V ?_
  refine zZ (fun h11 => ?_) (fun h11 => ?_)
  ·
   refine qT V V V V <| qP V V V V <| qM V V V <| qT V V V V <| qP V V V V <| qN <| zT V (V) <| zB <| qR V <| qA V V V <| qN <| zI ?_
   exact zR (.inr V) zY0 V (.of_eq (by rw [zM2 8]; congr 1; symm; first | (rw [show bareF 8 _ = false by simpa using h11]; rfl) | (rw [w40f]; simp; done) | (rw [c40f]; simp; done))) (.bool _) Vv
  ·
   refine qF V V V zI2 <| qL V V V V ta25 V <| qE V V zI0 V <| qC V V V V V <| qP V V V V <| qM V V V ?_
   refine zZ (fun h17 => ?_) (fun h17 => ?_)
   ·
    have w40f := decide_eq_false (by rw [zU0] at h17; simp at h17; omega : ¬ w.length ≤ 40)
    refine qT V V V V <| qP V V V V <| qN <| zT V (V) <| zB <| qR V <| qA V V V <| qN <| zI ?_
    exact zR (.inr V) zY0 V (.of_eq (by rw [zM2 8]; congr 1; symm; first | (rw [show bareF 8 _ = false by simpa using h11]; rfl) | (rw [w40f]; simp; done) | (rw [c40f]; simp; done))) (.bool _) Vv
   ·
    have w40t := decide_eq_true (by rw [zU0] at h17; simp at h17; omega : w.length ≤ 40)
    refine qF V V V zT2 <| qL V V V V ta24 V <| qE V V zE0 V <| qC V V V V V <| qP V V V V <| qN ?_
    refine zJ V (fun h22 => ?_) (fun h22 => ?_)
    ·
     have c40f := decide_eq_false (by rw [zF] at h22; simp at h22; omega : ¬ c.length ≤ 40)
     refine zB <| qR V <| qA V V V <| qN <| zI ?_
     exact zR (.inr V) zY0 V (.of_eq (by rw [zM2 8]; congr 1; symm; first | (rw [show bareF 8 _ = false by simpa using h11]; rfl) | (rw [w40f]; simp; done) | (rw [c40f]; simp; done))) (.bool _) Vv
    ·
     have c40t := decide_eq_true (by rw [zF] at h22; simp at h22; omega : c.length ≤ 40)
     refine zQ <| zB <| qR V <| qO V <| zO2 V V V <| qO V <| zN0 V zm286 V V <| qO V <| zC0 V V V V sz286 V V (zA V) V <| qN <| zB <| zB <| qR V <| qF V V V zJ2 <| qL V V V V ta3 V <| qN <| zX <| zB <| qR V <| qC V V V V V <| qA V V V <| qN <| zL V (V) <| zB <| qR V <| qC V V V V V ?_
     refine qA V V V <| qN <| zL V (V) <| zB <| qR V <| qC V V V V V <| qA V V V <| qN <| zL V (V) <| zB <| qR V <| qC V V V V V <| qA V V V <| qN <| zL V (V) <| zB <| qR V <| qC V V V V V <| qA V V V <| qN <| zL V (V) <| zB <| qR V ?_
     refine qC V V V V V <| qA V V V <| qN <| zL V (V) <| zB <| qR V <| qC V V V V V <| qA V V V <| qN <| zL V (V) <| zQ <| zB <| qR V <| qF V V V zT2 <| qL V V V V ta24 V <| qE V V zE0 V <| qF V V V zI2 <| qL V V V V ta25 V <| qE V V zI0 V <| qC V V V V V ?_
     refine qM V V V ?_
     refine zZ (fun h125 => ?_) (fun h125 => ?_)
     ·
      have hsl : c.length = w.length := by rw [zF, zU0] at h125; simp at h125; omega
      refine qF V V V zT2 <| qL V V V V ta24 V ?_
      refine qX V V V V co212 (isCause_spec c _) ?_
      refine qP V V V V <| qM V V V ?_
      refine zZ (fun h130 => ?_) (fun h130 => ?_)
      ·
       refine qF V V V zI2 <| qL V V V V ta25 V <| qO V <| zO2 V V V ?_
       refine qX V V V V co208 (vContains_spec _ w (fun x => !isVF (.mk k1 i1) x) _ [] [.ref (S.length + 2) 0] co213 (fun x hx X => is3v_spec 8 k1 i1 [] (isVF (.mk k1 i1)) ih1 x (hvs x hx) _ _ _ (zF5 (k := 2) V) (zF5 (k := 0) V))) ?_
       refine qO V <| zC1 V V <| qP V V V V <| qA V V V <| qN <| zI ?_
       exact zR (.inr V) zY0 V (.of_eq (by rw [zM2 8]; rw [show bareF 8 _ = true by simpa using h11, w40t, c40t]; simp only [Bool.true_and, isVL, List.headD_cons, List.tail_cons]; congr 1; rw [zH]; simp_all [zU0, any_all'])) (.bool _) Vv
      ·
       refine qT V V V V <| qS V <| qP V V V V <| qA V V V <| qN <| zI ?_
       exact zR (.inr V) zY0 V (.of_eq (by rw [zM2 8]; rw [show bareF 8 _ = true by simpa using h11, w40t, c40t]; simp only [Bool.true_and, isVL, List.headD_cons, List.tail_cons]; congr 1; rw [zH]; simp_all [zU0, any_all'])) (.bool _) Vv
     ·
      have hsl : ¬ c.length = w.length := by rw [zF, zU0] at h125; simp at h125; omega
      refine qS V <| qS V <| qS V <| qP V V V V <| qM V V V <| qT V V V V <| qS V <| qP V V V V <| qA V V V <| qN <| zI ?_
      exact zR (.inr V) zY0 V (.of_eq (by rw [zM2 8]; rw [show bareF 8 _ = true by simpa using h11, w40t, c40t]; simp only [Bool.true_and, isVL, List.headD_cons, List.tail_cons]; congr 1; rw [zH]; simp_all [zU0, any_all'])) (.bool _) Vv
abbrev Tbl := Bs × Int × Sch
def encTb : Tbl → MV
 | (n, lv, .mk k i) => .agg [.str (bs n), .int .i64 lv, .int .i64 k, .lst none 2 (encSs i)]
def tb0 : Tbl := ([], 0, .mk 0 [])
def findP (l : List Tbl) (key : Bs) : Option Tbl := if key.length < 2 ∨ 8 < key.length ∨ plainS key = false then none else l.find? (fun t => decide (t.1 = key.take 1))
theorem cl_encTb (n : Nat) (t : Tbl) : Cl n (encTb t) := by
 obtain ⟨a, b, ⟨k, i⟩⟩ := t
 refine .agg _ fun x hx => ?_
 simp only [List.mem_cons, List.not_mem_nil, or_false] at hx
 rcases hx with rfl | rfl | rfl | rfl
 ·exact .str _
 ·exact .int _ _
 ·exact .int _ _
 ·exact cl_encSl n i
theorem find_go {l : List Tbl} {p : Tbl → Bool} : ∀ i : Nat, (findGo p i l = -1 ∧ l.find? p = none) ∨ (∃ (j : Nat) (t : Tbl), findGo p i l = ((i + j : Nat) : Int) ∧ l[j]? = some t ∧ l.find? p = some t) := by
 induction l with
 | nil => exact fun i => .inl ⟨rfl, rfl⟩
 | cons x l ih =>
  intro i
  unfold findGo
  rw [List.find?_cons]
  cases h : p x with
  | true => exact .inr ⟨0, x, by simp, rfl, by simp⟩
  | false =>
   rcases ih (i + 1) with ⟨h1, h2⟩ | ⟨j, t, h1, h2, h3⟩
   ·exact .inl ⟨by simpa using h1, by simpa using h2⟩
   ·exact .inr ⟨j + 1, t, by simp only [h1]; simp; omega, by simpa using h2, by simpa using h3⟩
theorem strEq_D (a b : Bs) : strCmp .eql a b = some (decide (a = b)) := by
 show some (a == b) = _
 congr 1
 rw [zH, beq_iff_eq, decide_eq_true_iff]
theorem own_at0 {S L : MS} {o : MObj} : (S ++ o :: L)[S.length]? = some o := zU4
theorem _root_.zQ2 : type_of% @Tryz.underlying39 := @Tryz.underlying39
theorem tbIndex_spec (S : MS) (l : List Tbl) (p : Tbl → Bool) (kf : FuncId) (first caps : List MV) (hco : CallOk Tryz.prog kf) (hp : ∀ x ∈ l, ∀ X : MS, MCalls Tryz.prog kf (first ++ [encTb x] ++ caps) (S ++ X) fun v σ' => v = .bool (p x) ∧ σ' = S ++ X) : MCalls Tryz.prog 76 [.lst none 4 (l.map encTb), .fn (.func kf) first caps] S fun v σ' => v = .int .i64 (findGo p 0 l) ∧ σ' = S := by
 refine zM Tryz.func76 V Tryz.ntmps76 (zA V) ?_
 refine zL3 (t := 0) V fun hlen => ?_
 rw [zF] at hlen
 refine zB <| qR V <| qA V V V <| qN <| zB <| zB <| qR V <| qM V V V <| qE V V zQ2 V <| qM V V V <| qN <| zX ?_
 refine zS1 (α := Nat) [(0, _), (1, _), (7, _)] (fun i => [(8, .int .i64 (i : Int))]) (fun i => []) (fun i => i ≤ l.length ∧ findGo p i (l.drop i) = findGo p 0 l) (fun i => l.length - i) (0) (.keep V (.keep V (.keep V (.nil)))) (.keep V (.nil)) (⟨by omega, rfl⟩) (V) ?_
 rintro i ⟨hi, he⟩
 refine zB <| qR V <| qC V V V V V <| qN <| zB ?_
 refine zJ V (fun h9 => ?_) (fun h9 => ?_)
 ·
  rw [zF] at h9
  have hlt : i < l.length := by simpa using h9
  obtain ⟨x, hs⟩ : ∃ x, l[i]? = some x := ⟨_, zC hlt⟩
  obtain ⟨xn, xl, ⟨xk, xi⟩⟩ := x
  refine zQ <| zB <| zX <| zB <| qR V <| qM V V V <| qA V V V <| qN <| zB <| qR V <| qM V V V <| qM V V V <| qM V V V <| qO V <| zK V zQ2 sz55 (by decide) V V V (zE1 hs) ?_
  refine qO V <| zO V V ta55 V ?_
  refine zM5 V (zD1 V V V hco ((hp _ (zW hs) _).mono ?_))
  rintro _ _ ⟨rfl, rfl⟩
  refine qN ?_
  refine zJ V (fun h16 => ?_) (fun h16 => ?_)
  ·
   refine zB <| qR V <| qM V V V <| qA V V V <| qN <| zI ?_
   exact zR (.inr V) Tryz.results76 V (.of_eq (by rw [← he, find_at hs, h16]; rfl)) (.int _ _) Vv
  ·
   refine zQ <| qR V <| qO V <| zT0 V V V V <| qM V V V <| qN ?_
   refine ⟨i + 1, by omega, ⟨by omega, by rw [← he, find_at hs, h16]; rfl⟩, rfl, (.keep V (.keep V (.keep V (.nil)))), (.eq V (zQ1 hlt hlen) (.nil))⟩
 ·
  rw [zF] at h9
  have hge : i = l.length := by simp at h9; omega
  refine zM1 <| zB <| qR V <| qA V V V <| qN <| zI ?_
  exact zR (.inr V) Tryz.results76 V (.of_eq (by rw [← he, hge, List.drop_length]; rfl)) (.int _ _) Vv
theorem tbContains_spec (S : MS) (l : List Tbl) (p : Tbl → Bool) (kf : FuncId) (first caps : List MV) (hco : CallOk Tryz.prog kf) (hp : ∀ x ∈ l, ∀ X : MS, MCalls Tryz.prog kf (first ++ [encTb x] ++ caps) (S ++ X) fun v σ' => v = .bool (p x) ∧ σ' = S ++ X) : MCalls Tryz.prog 80 [.lst none 4 (l.map encTb), .fn (.func kf) first caps] S fun v σ' => v = .bool (l.any p) ∧ σ' = S := by
 refine zM Tryz.func80 V Tryz.ntmps80 (zA V) ?_
 refine zB <| qR V <| qA V V V <| qN <| zB <| qR V <| qM V V V <| qM V V V ?_
 refine qX V V V V co76 (tbIndex_spec (S ++ []) l p kf first caps hco (by rw [List.append_nil]; exact hp)) ?_
 refine qC V V V V V <| qA V V V <| qN <| zI ?_
 exact zR (.inr V) Tryz.results80 V (.of_eq (by rw [find_any p 0 l])) (.bool _) Vv
theorem find1_spec (t : Tbl) (key : Bs) (id : Nat) (S : MS) (hl : 1 ≤ key.length) (hS : S[id]? = some (.cells [.str (bs key)])) : MCalls Tryz.prog 77 [encTb t, .ref id 0] S fun v σ' => v = .bool (decide (t.1 = key.take 1)) ∧ σ' = S := by
 obtain ⟨xn, xl, ⟨xk, xi⟩⟩ := t
 refine zM Tryz.func77 V Tryz.ntmps77 (zA V) ?_
 refine zB <| qR V <| qB V V V V V <| qA V V V <| qN <| zB ?_
 refine zX0 [] [_] mo (by decide) V V V V ?_
 refine dO V V V (zE V V fo55_0 Vv) <| dO V V V (zO0 V V V ta9 V Vv) <| dO V V V (zP1 V V hS ta9 V Vv) <| dO V V V (zK5 V zV0 V .none (.some V V) (by omega) (by omega) Vv) ?_
 refine dO V V V (zS2 V V V (strEq_D _ _) Vv) <| dO V V V (zF1 V V Vv) <| zP0 <| zI ?_
 exact zR (.inr V) Tryz.results77 V (.of_eq (V)) (.bool _) Vv
theorem sub_tb0 : Sub (.agg [.str ⟨#[]⟩, .int .i64 0, .int .i64 0, .lst0]) (encTb tb0) := .agg (.cons (.refl _) (.cons (.refl _) (.cons (.refl _) (.cons (.nil 2) .nil))))
theorem findP_no {l : List Tbl} {key : Bs} (h : findP l key = none) : MV.tup [encTb ((findP l key).getD tb0), .bool (findP l key).isSome] = .tup [encTb tb0, .bool false] := by rw [h]; rfl
theorem findP_yes {l : List Tbl} {key : Bs} {t : Tbl} (h : findP l key = some t) : MV.tup [encTb ((findP l key).getD tb0), .bool (findP l key).isSome] = .tup [encTb t, .bool true] := by rw [h]; rfl
theorem _root_.zM4 : type_of% @Tryz.underlying55 := @Tryz.underlying55
theorem find_spec (l : List Tbl) (key : Bs) (S : MS) : MCalls Tryz.prog 20 [.lst none 4 (l.map encTb), .str (bs key)] S fun v σ' => v = .tup [encTb ((findP l key).getD tb0), .bool (findP l key).isSome] ∧ σ' = S := by
 refine zM Tryz.func20 V Tryz.ntmps20 (zA V) ?_
 refine zB <| qR V <| qB V V V V V <| qO V <| zN0 V zm55 V V <| qA V V V <| qN <| zB <| zB <| qR V <| qL V V V V ta9 V <| qO V <| zU3 V zV0 V <| qC V V V V V <| qM V V V ?_
 refine zZ (fun h10 => ?_) (fun h10 => ?_)
 ·
  have h9a : key.length < 2 := by simp at h10; omega
  refine qS V <| qS V <| qS V <| qP V V V V <| qM V V V <| qS V <| qS V <| qS V <| qP V V V V <| qN <| zT V (V) <| zB <| qR V <| qO V <| zA1 V zM4 zm55 .nil (by kernel_rfl) ?_
  refine qO V <| zC0 V V V V sz55 V V (zA V) V <| qA V V V <| qN <| zI ?_
  exact zN1 (.inr V) Tryz.results20 V V ta55 V (sub_tb0) (cl_encTb _ tb0) V (.refl _) (.bool _) ⟨by exact (findP_no (by unfold findP; rw [if_pos (by simp_all)])).symm, rfl⟩
 ·
  have h9a : ¬ key.length < 2 := by simp at h10; omega
  refine qL V V V V ta9 V <| qO V <| zU3 V zV0 V <| qC V V V V V <| qP V V V V <| qM V V V ?_
  refine zZ (fun h15 => ?_) (fun h15 => ?_)
  ·
   have h13a : 8 < key.length := by simp at h15; omega
   refine qS V <| qS V <| qS V <| qP V V V V <| qN <| zT V (V) <| zB <| qR V <| qO V <| zA1 V zM4 zm55 .nil (by kernel_rfl) ?_
   refine qO V <| zC0 V V V V sz55 V V (zA V) V <| qA V V V <| qN <| zI ?_
   exact zN1 (.inr V) Tryz.results20 V V ta55 V (sub_tb0) (cl_encTb _ tb0) V (.refl _) (.bool _) ⟨by exact (findP_no (by unfold findP; rw [if_pos (by simp_all)])).symm, rfl⟩
  ·
   have h13a : ¬ 8 < key.length := by simp at h15; omega
   refine qL V V V V ta9 V ?_
   refine qX V V V V co75 (isPlain_spec key (by intro e; subst e; simp at h9a) (by omega) _) ?_
   refine qO V <| zC1 V V <| qP V V V V <| qN ?_
   refine zJ V (fun h19 => ?_) (fun h19 => ?_)
   ·
    refine zB <| qR V <| qO V <| zA1 V zM4 zm55 .nil (by kernel_rfl) ?_
    refine qO V <| zC0 V V V V sz55 V V (zA V) V <| qA V V V <| qN <| zI ?_
    exact zN1 (.inr V) Tryz.results20 V V ta55 V (sub_tb0) (cl_encTb _ tb0) V (.refl _) (.bool _) ⟨by exact (findP_no (by unfold findP; rw [if_pos (by simp_all)])).symm, rfl⟩
   ·
    refine zQ <| zB <| qR V <| qM V V V <| qO V <| zO2 V V V ?_
    refine qX V V V V co76 (tbIndex_spec _ l (fun t => decide (t.1 = key.take 1)) _ [] [.ref S.length 0] co77 (fun x _ X => find1_spec x key S.length _ (by omega) (by rw [zN]; exact own_at0))) ?_
    refine qA V V V <| qN <| zB <| zB <| qR V <| qM V V V <| qC V V V V V <| qN ?_
    refine zJ V (fun h25 => ?_) (fun h25 => ?_)
    ·
     have hfn : l.find? (fun t => decide (t.1 = key.take 1)) = none := by
      rcases find_go (p := fun t => decide (t.1 = key.take 1)) (l := l) 0 with ⟨_, h⟩ | ⟨j, t, h1, _⟩
      ·exact h
      ·rw [h1] at h25
       simp at h25
       omega
     refine zB <| qR V <| qO V <| zA1 V zM4 zm55 .nil (by kernel_rfl) ?_
     refine qO V <| zC0 V V V V sz55 V V (zA V) V <| qA V V V <| qN <| zI ?_
     exact zN1 (.inr V) Tryz.results20 V V ta55 V (sub_tb0) (cl_encTb _ tb0) V (.refl _) (.bool _) ⟨by exact (findP_no (by unfold findP; rw [hfn]; split <;> rfl)).symm, rfl⟩
    ·
     obtain ⟨j, t, hj, ht, hf⟩ : ∃ (j : Nat) (t : Tbl), findGo (fun t => decide (t.1 = key.take 1)) 0 l = (j : Int) ∧ l[j]? = some t ∧ findP l key = some t := by
      rcases find_go (p := fun t => decide (t.1 = key.take 1)) (l := l) 0 with ⟨h, _⟩ | ⟨j, t, h1, h2, h3⟩
      ·rw [h] at h25
       simp at h25
      ·exact ⟨j, t, by simpa using h1, h2, by unfold findP; rw [if_neg (by simp_all)]; exact h3⟩
     rw [hj]
     obtain ⟨xn, xl, ⟨xk, xi⟩⟩ := t
     refine zQ <| zB <| qR V <| qM V V V <| qM V V V <| qO V <| zK V zQ2 sz55 (by decide) V V V (zE1 ht) ?_
     refine qO V <| zO V V ta55 V <| qO V <| zC0 V V V V sz55 V V (zA V) V <| qA V V V <| qN <| zI ?_
     exact zN1 (.inr V) Tryz.results20 V V ta55 V (.refl _) (cl_encTb _ (xn, xl, .mk xk xi)) V (.refl _) (.bool _) ⟨by exact (findP_yes hf).symm, rfl⟩
def namedT (t : Tbl) : Bool := match t.1 with
 | [c] => decide (97 ≤ c.toNat) && decide (c.toNat ≤ 122)
 | _ => false
noncomputable def goodT (t : Tbl) : Bool := namedT t && !decide (levelF t.2.2 = 0) && (decide (t.2.1 = levelF t.2.2) || decide (t.2.1 = 1))
noncomputable def rightAt (l : List Tbl) (i : Nat) : Bool := match l[i]? with
 | some t => goodT t && !(l.take i).any (fun o => decide (o.1 = t.1))
 | none => true
noncomputable def rightF (l : List Tbl) : Bool := (List.range l.length).all (rightAt l) && decide (1 ≤ l.length) && decide (l.length ≤ 4)
theorem geqN {n m : Nat} : intCmp .geq (n : Int) (m : Int) = some (decide (m ≤ n)) := by simp [intCmp]
theorem leqN {n m : Nat} : intCmp .leq (n : Int) (m : Int) = some (decide (n ≤ m)) := by simp [intCmp]
theorem eqlZ {n m : Int} : intCmp .eql n m = some (decide (n = m)) := by
 rfl
theorem neqI {n m : Int} : intCmp .neq n m = some (!decide (n = m)) := by
 rfl
theorem right_no {l : List Tbl} {i : Nat} (hi : i < l.length) (h : rightAt l i = false) : rightF l = false := by
 unfold rightF
 rw [(List.all_eq_false).2 ⟨i, List.mem_range.2 hi, by simp [h]⟩]
 rfl
theorem right_all {l : List Tbl} (h : ∀ j < l.length, rightAt l j = true) : rightF l = (decide (1 ≤ l.length) && decide (l.length ≤ 4)) := by
 unfold rightF
 rw [(List.all_eq_true).2 fun i hi => h i (List.mem_range.1 hi)]
 rfl
theorem named_len {t : Tbl} (h : ¬ t.1.length = 1) : namedT t = false := by
 unfold namedT
 split
 ·rename_i h1
  rw [h1] at h
  exact absurd rfl h
 ·rfl
theorem right_step {l : List Tbl} {i : Nat} (hd : ∀ j < i, rightAt l j = true) (h : rightAt l i = true) : ∀ j < i + 1, rightAt l j = true := by
 intro j hj
 rcases Nat.lt_or_eq_of_le (Nat.le_of_lt_succ hj) with h1 | rfl
 ·exact hd j h1
 ·exact h
theorem right1_spec (o t : Tbl) (id : Nat) (S : MS) (hS : S[id]? = some (.cells (encTb t).cells)) : MCalls Tryz.prog 81 [encTb o, .ref id 0] S fun v σ' => v = .bool (decide (o.1 = t.1)) ∧ σ' = S := by
 obtain ⟨xn, xl, ⟨xk, xi⟩⟩ := o
 obtain ⟨tn, tl, ⟨tk, ti⟩⟩ := t
 refine zM Tryz.func81 V Tryz.ntmps81 (zA V) ?_
 refine zB <| qR V <| qB V V V V V <| qA V V V <| qN <| zB <| qR V <| qF V V V fo55_0 <| qL V V V V ta9 V <| qF V V V fo55_0 <| qO V <| zP1 V V hS ta9 V <| qO V <| zS2 V V V (strEq_D _ _) <| qA V V V <| qN <| zI ?_
 exact zR (.inr V) Tryz.results81 V (.of_eq (V)) (.bool _) Vv
theorem _root_.zD5 : type_of% @Tryz.results22 := @Tryz.results22
theorem right_spec (l : List Tbl) (S : MS) : MCalls Tryz.prog 22 [.lst none 4 (l.map encTb)] S fun v σ' => v = .bool (rightF l) ∧ σ' = S := by
 refine zM Tryz.func22 V Tryz.ntmps22 (zA V) ?_
 refine zL3 (t := 0) V fun hlen => ?_
 rw [zF] at hlen
 have hml : (l.map encTb).length = l.length := zF ..
 refine zB <| qR V <| qA V V V <| qN <| zB <| zB <| qR V <| qM V V V <| qE V V zQ2 V <| qM V V V <| qN <| zX ?_
 refine zD4 (α := Nat) [(0, _), (8, _), (9, _)] (fun i => [(10, .int .i64 (i : Int))]) (fun i => []) (fun i => i ≤ l.length ∧ ∀ j < i, rightAt l j = true) (fun i => l.length - i) (0) (Nat.le_refl _) (.keep V (.keep V (.keep V (.nil)))) (.keep V (.nil)) (⟨by omega, fun j hj => by omega⟩) (V) ?_
 rintro i ⟨hi, hd⟩
 refine zB <| qR V <| qC V V V V V <| qN <| zB ?_
 refine zJ V (fun h11 => ?_) (fun h11 => ?_)
 ·
  rw [zF] at h11
  have hlt : i < l.length := by simpa using h11
  obtain ⟨x, hs⟩ : ∃ x, l[i]? = some x := ⟨_, zC hlt⟩
  obtain ⟨xn, xl, ⟨xk, xi⟩⟩ := x
  have hat : rightAt l i = (goodT (xn, xl, .mk xk xi) && !(l.take i).any (fun o => decide (o.1 = xn))) := by simp [rightAt, hs]
  refine zQ <| zB <| zX <| zB <| qR V <| qM V V V <| qO V <| zK V zQ2 sz55 (by decide) V V V (zE1 hs) ?_
  refine qO V <| zO V V ta55 V <| qO V <| zN0 V zm55 V V <| qA V V V <| qO V <| zC0 V V V V sz55 V V (zA V) V <| qN <| zB <| qR V <| qF V V V zZ6 <| qL V V V V ta53 V ?_
  refine qX V V V V co79 (levelSch_spec (.mk xk xi) _) ?_
  refine qA V V V <| qN <| zB <| qR V <| qF V V V fo55_0 <| qL V V V V ta9 V <| qO V <| zU3 V zV0 V <| qC V V V V V <| qM V V V ?_
  refine zZ (fun h22 => ?_) (fun h22 => ?_)
  ·
   obtain ⟨c, hc⟩ : ∃ c, xn = [c] := one_of (by simp at h22; omega)
   have hnm : namedT (xn, xl, Sch.mk xk xi) = (decide (97 ≤ c.toNat) && decide (c.toNat ≤ 122)) := by rw [hc]; rfl
   refine qF V V V fo55_0 <| qL V V V V ta9 V <| qO V <| zJ5 V zV0 V V V (show _ = some c by rw [hc]; rfl) ?_
   refine qC V V V V (geqN) <| qP V V V V <| qM V V V ?_
   refine zZ (fun h28 => ?_) (fun h28 => ?_)
   ·
    refine qF V V V fo55_0 <| qL V V V V ta9 V <| qO V <| zJ5 V zV0 V V V (show _ = some c by rw [hc]; rfl) ?_
    refine qC V V V V (leqN) <| qP V V V V <| qA V V V <| qN <| zB <| qR V <| qM V V V <| qM V V V <| qO V <| zL2 V zQ2 sz55 V .none (.some V V) (by omega) (by omega) ?_
    refine qO V <| zO2 V V V ?_
    rw [show List.take (i - 0) (List.drop 0 (l.map encTb)) = (l.take i).map encTb by simp [List.map_take]]
    refine qX V V V V co80 (tbContains_spec _ (l.take i) (fun o => decide (o.1 = xn)) _ [] [.ref _ 0] co81 (fun x _ X => right1_spec x (xn, xl, .mk xk xi) _ _ (by rw [zN]; simp [List.getElem?_append_right]; rfl))) ?_
    refine qA V V V <| qN <| zB <| qR V <| qM V V V <| qO V <| zC1 V V <| qM V V V ?_
    refine zZ (fun h41 => ?_) (fun h41 => ?_)
    ·
     refine qS V <| qP V V V V <| qM V V V <| qS V <| qS V <| qP V V V V <| qM V V V <| qT V V V V <| qT V V V V <| qS V <| qP V V V V <| qN <| zT V (V) <| zB <| qR V <| qA V V V <| qN <| zI ?_
     have hr : rightAt l i = false := by
      rw [hat]
      clear hd
      first | (simp_all [goodT, namedT]; done) | (simp_all [goodT, namedT]; omega)
     exact zR (.inr V) zD5 V (.of_eq (by congr 1; exact (right_no hlt hr).symm)) (.bool _) Vv
    ·
     refine qM V V V <| qP V V V V <| qM V V V ?_
     refine zZ (fun h44 => ?_) (fun h44 => ?_)
     ·
      refine qS V <| qS V <| qP V V V V <| qM V V V <| qT V V V V <| qT V V V V <| qS V <| qP V V V V <| qN <| zT V (V) <| zB <| qR V <| qA V V V <| qN <| zI ?_
      have hr : rightAt l i = false := by
       rw [hat]
       clear hd
       first | (simp_all [goodT, namedT]; done) | (simp_all [goodT, namedT]; omega)
      exact zR (.inr V) zD5 V (.of_eq (by congr 1; exact (right_no hlt hr).symm)) (.bool _) Vv
     ·
      refine qM V V V <| qC V V V V (eqlZ) <| qP V V V V <| qM V V V ?_
      refine zZ (fun h48 => ?_) (fun h48 => ?_)
      ·
       refine qT V V V V <| qT V V V V <| qS V <| qP V V V V <| qN <| zT V (V) <| zB <| qR V <| qA V V V <| qN <| zI ?_
       have hr : rightAt l i = false := by
        rw [hat]
        clear hd
        first | (simp_all [goodT, namedT]; done) | (simp_all [goodT, namedT]; omega)
       exact zR (.inr V) zD5 V (.of_eq (by congr 1; exact (right_no hlt hr).symm)) (.bool _) Vv
      ·
       refine qF V V V fo55_1 <| qL V V V V ta3 V <| qM V V V <| qC V V V V (neqI) <| qM V V V ?_
       refine zZ (fun h53 => ?_) (fun h53 => ?_)
       ·
        refine qF V V V fo55_1 <| qL V V V V ta3 V <| qC V V V V (neqI) <| qP V V V V <| qP V V V V <| qN ?_
        refine zJ V (fun h58 => ?_) (fun h58 => ?_)
        ·
         refine zB <| qR V <| qA V V V <| qN <| zI ?_
         have hr : rightAt l i = false := by
          rw [hat]
          clear hd
          first | (simp_all [goodT, namedT]; done) | (simp_all [goodT, namedT]; omega)
         exact zR (.inr V) zD5 V (.of_eq (by congr 1; exact (right_no hlt hr).symm)) (.bool _) Vv
        ·
         refine zQ <| qR V <| qO V <| zT0 V V V V <| qM V V V <| qN ?_
         refine ⟨i + 1, _, by omega, ⟨by omega, right_step hd (by rw [hat]; clear hd; first | (simp_all [goodT, namedT]; done) | (simp_all [goodT, namedT]; omega))⟩, rfl, .nil, (.old V V (.old V V (.old V V (.nil)))), (.new' V (zQ1 hlt (by omega)) (.int _ _) (.nil))⟩
       ·
        refine qS V <| qS V <| qS V <| qP V V V V <| qP V V V V <| qN <| zL V (V) <| zQ <| qR V <| qO V <| zT0 V V V V <| qM V V V <| qN ?_
        refine ⟨i + 1, _, by omega, ⟨by omega, right_step hd (by rw [hat]; clear hd; first | (simp_all [goodT, namedT]; done) | (simp_all [goodT, namedT]; omega))⟩, rfl, .nil, (.old V V (.old V V (.old V V (.nil)))), (.new' V (zQ1 hlt (by omega)) (.int _ _) (.nil))⟩
   ·
    refine qT V V V V <| qP V V V V <| qA V V V <| qN <| zB <| qR V <| qM V V V <| qM V V V <| qO V <| zL2 V zQ2 sz55 V .none (.some V V) (by omega) (by omega) ?_
    refine qO V <| zO2 V V V ?_
    rw [show List.take (i - 0) (List.drop 0 (l.map encTb)) = (l.take i).map encTb by simp [List.map_take]]
    refine qX V V V V co80 (tbContains_spec _ (l.take i) (fun o => decide (o.1 = xn)) _ [] [.ref _ 0] co81 (fun x _ X => right1_spec x (xn, xl, .mk xk xi) _ _ (by rw [zN]; simp [List.getElem?_append_right]; rfl))) ?_
    refine qA V V V <| qN <| zB <| qR V <| qM V V V <| qO V <| zC1 V V <| qM V V V <| qS V <| qP V V V V <| qM V V V <| qS V <| qS V <| qP V V V V <| qM V V V <| qT V V V V <| qT V V V V ?_
    refine qS V <| qP V V V V <| qN <| zT V (V) <| zB <| qR V <| qA V V V <| qN <| zI ?_
    have hr : rightAt l i = false := by
     rw [hat]
     clear hd
     first | (simp_all [goodT, namedT]; done) | (simp_all [goodT, namedT]; omega)
    exact zR (.inr V) zD5 V (.of_eq (by congr 1; exact (right_no hlt hr).symm)) (.bool _) Vv
  ·
   have hnm : namedT (xn, xl, Sch.mk xk xi) = false := named_len (by show ¬ xn.length = 1; simp at h22; omega)
   refine qT V V V V <| qP V V V V <| qM V V V <| qT V V V V <| qP V V V V <| qA V V V <| qN <| zB <| qR V <| qM V V V <| qM V V V <| qO V <| zL2 V zQ2 sz55 V .none (.some V V) (by omega) (by omega) ?_
   refine qO V <| zO2 V V V ?_
   rw [show List.take (i - 0) (List.drop 0 (l.map encTb)) = (l.take i).map encTb by simp [List.map_take]]
   refine qX V V V V co80 (tbContains_spec _ (l.take i) (fun o => decide (o.1 = xn)) _ [] [.ref _ 0] co81 (fun x _ X => right1_spec x (xn, xl, .mk xk xi) _ _ (by rw [zN]; simp [List.getElem?_append_right]; rfl))) ?_
   refine qA V V V <| qN <| zB <| qR V <| qM V V V <| qO V <| zC1 V V <| qM V V V <| qS V <| qP V V V V <| qM V V V <| qS V <| qS V <| qP V V V V <| qM V V V <| qT V V V V <| qT V V V V ?_
   refine qS V <| qP V V V V <| qN <| zT V (V) <| zB <| qR V <| qA V V V <| qN <| zI ?_
   have hr : rightAt l i = false := by
    rw [hat]
    clear hd
    first | (simp_all [goodT, namedT]; done) | (simp_all [goodT, namedT]; omega)
   exact zR (.inr V) zD5 V (.of_eq (by congr 1; exact (right_no hlt hr).symm)) (.bool _) Vv
 ·
  rw [zF] at h11
  have hge : i = l.length := by simp at h11; omega
  refine zM1 <| zB <| qR V <| qM V V V <| qE V V zQ2 V <| qC V V V V (geqN) <| qM V V V ?_
  refine zZ (fun h63 => ?_) (fun h63 => ?_)
  ·
   refine qM V V V <| qE V V zQ2 V <| qC V V V V (leqN) <| qP V V V V <| qA V V V <| qN <| zI ?_
   exact zR (.inr V) zD5 V (.of_eq (by subst hge; rw [right_all hd]; simp_all)) (.bool _) Vv
  ·
   refine qS V <| qS V <| qS V <| qP V V V V <| qA V V V <| qN <| zI ?_
   exact zR (.inr V) zD5 V (.of_eq (by subst hge; rw [right_all hd]; simp_all)) (.bool _) Vv
def bothX : List Bs → List Bs → List Bs
 | [], [] => []
 | x :: a, [] => x :: bothX a []
 | [], y :: b => y :: bothX [] b
 | x :: a, y :: b => if Op.bytesLess x y then x :: bothX a (y :: b) else if Op.bytesLess y x then y :: bothX (x :: a) b else x :: bothX a b
 termination_by a b => a.length + b.length
theorem len_snoc {α : Type} {l : List α} {x : α} : (l ++ [x]).length = l.length + 1 := by simp
theorem getDJ_of {α : Type} {l : List α} {i : Nat} {a d : α} (h : l[i]? = some a) : l.getD i d = a := by simp [h]
theorem _root_.zB3 : type_of% @getDJ_of := @getDJ_of
theorem drop_getD {l : List Bs} {i : Nat} (h : i < l.length) : l.drop i = l.getD i [] :: l.drop (i + 1) := by
 rw [List.drop_eq_getElem_cons h]; simp [h]
theorem both_end : bothX [] [] = [] := by rw [bothX]
theorem both_A {a b : List Bs} {i k : Nat} (hi : i < a.length) (hk : k ≤ b.length) (h : k = b.length ∨ Op.bytesLess (a.getD i []) (b.getD k []) = true) : bothX (a.drop i) (b.drop k) = a.getD i [] :: bothX (a.drop (i + 1)) (b.drop k) := by
 rw [drop_getD hi]
 by_cases e : k = b.length
 ·rw [e, List.drop_length, bothX]
 ·have hkb : k < b.length := by omega
  rw [drop_getD hkb, bothX, if_pos (h.resolve_left e)]
theorem both_B {a b : List Bs} {i k : Nat} (hk : k < b.length) (hi : i ≤ a.length) (h : i = a.length ∨ (Op.bytesLess (a.getD i []) (b.getD k []) = false ∧ Op.bytesLess (b.getD k []) (a.getD i []) = true)) : bothX (a.drop i) (b.drop k) = b.getD k [] :: bothX (a.drop i) (b.drop (k + 1)) := by
 rw [drop_getD hk]
 by_cases e : i = a.length
 ·rw [e, List.drop_length, bothX]
 ·have hia : i < a.length := by omega
  obtain ⟨h1, h2⟩ := h.resolve_left e
  rw [drop_getD hia, bothX, if_neg (fun hh => by rw [h1] at hh; cases hh), if_pos h2]
theorem both_C {a b : List Bs} {i k : Nat} (hi : i < a.length) (hk : k < b.length) (h1 : Op.bytesLess (a.getD i []) (b.getD k []) = false) (h2 : Op.bytesLess (b.getD k []) (a.getD i []) = false) : bothX (a.drop i) (b.drop k) = a.getD i [] :: bothX (a.drop (i + 1)) (b.drop (k + 1)) := by
 rw [drop_getD hi, drop_getD hk, bothX, if_neg (fun hh => by rw [h1] at hh; cases hh), if_neg (fun hh => by rw [h2] at hh; cases hh)]
theorem both_len : ∀ a b : List Bs, (bothX a b).length ≤ a.length + b.length := by
 intro a b
 induction a, b using bothX.induct with
 | case1 => simp [bothX]
 | case2 x a ih => rw [bothX]; simp at ih ⊢; omega
 | case3 y b ih => rw [bothX]; simp at ih ⊢; omega
 | case4 x a y b h ih => rw [bothX, if_pos h]; simp at ih ⊢; omega
 | case5 x a y b h h2 ih => rw [bothX, if_neg h, if_pos h2]; simp at ih ⊢; omega
 | case6 x a y b h h2 ih => rw [bothX, if_neg h, if_neg h2]; simp at ih ⊢; omega
theorem _root_.zN2 : type_of% @Tryz.results295 := @Tryz.results295
theorem with_iter (a b : List Bs) (hab : a.length + b.length ≤ 1000000) (ida idb l0 : Nat) : IterOk Tryz.prog 295 [] [.ref ida 0, .ref idb 0] ((bothX a b).map fun x => [encX x]) (fun σ => σ.length = l0 ∧ σ[ida]? = some (.cells [.lst none 1 (a.map encX)]) ∧ σ[idb]? = some (.cells [.lst none 1 (b.map encX)])) := by
 refine iterOk_of fun id T m hok hm hyt hyf => ?_
 have hml : ((bothX a b).map fun x => [encX x]).length = (bothX a b).length := zF ..
 refine zM Tryz.func295 V Tryz.ntmps295 (zA V) ?_
 rw [List.append_nil]
 show mwp _ _ _ _ _ _ _ (([] : MS) ++ T 0)
 refine zB <| qR V <| qA V V V <| qA V V V <| qN <| zX ?_
 refine zS1 (α := Nat × Nat × Nat) [(0, _), (1, _), (2, _)] (fun x => [(4, .int .i64 (x.2.1 : Int)), (5, .int .i64 (x.2.2 : Int))]) (fun x => T x.1) (fun x => x.1 ≤ m ∧ x.2.1 ≤ a.length ∧ x.2.2 ≤ b.length ∧ bothX (a.drop x.2.1) (b.drop x.2.2) = (bothX a b).drop x.1) (fun x => a.length - x.2.1 + (b.length - x.2.2)) (⟨0, 0, 0⟩) (.keep V (.keep V (.keep V (.nil)))) (.keep V (.keep V (.nil))) (⟨by simp, by simp, by simp, rfl⟩) (V) ?_
 rintro ⟨j, i, k⟩ ⟨hj, hi, hk, he⟩
 dsimp only at hj hi hk he ⊢
 refine zB <| zB <| qR V <| qM V V V <| qO V <| zP V V ((hok _).2.1) ta252 V <| qE V V zK0 V <| qC V V V V V <| qM V V V ?_
 refine zZ (fun h11 => ?_) (fun h11 => ?_)
 ·
  have hia : i < a.length := by rw [zF] at h11; simpa using h11
  refine qT V V V V <| qP V V V V <| qN <| zT V (V) <| zQ <| zX <| zB <| qR V <| qA V V V <| qN <| zB <| zX <| zB ?_
  refine zX0 [] [_] mo (by decide) V V V V ?_
  refine dO V V V (zY V V Vv) <| dO V V V (zP V V ((hok _).2.2) ta252 V Vv) <| dO V V V (zW1 V zK0 V Vv) <| dO V V V (zW2 V V V V Vv) <| dO V V V (zY V V Vv) ?_
  refine zT3 (fun h30 => ?_) (fun h30 => ?_)
  ·
   have hk2 : k = b.length := by rw [zF] at h30; simp at h30; omega
   refine dS V V <| dS V V <| dS V V <| dS V V <| dS V V <| dS V V <| dS V V <| dS V V <| dS V V <| dS V V <| dS V V <| dS V V <| dS V V <| dS V V <| dS V V <| dO V V V (zO1 V V V Vv) <| dO V V V (zF1 V V Vv) <| zP0 <| zT V (V) <| zB ?_
   obtain ⟨x, hs⟩ : ∃ q, a[i]? = some q := ⟨_, zC (by omega)⟩
   have hgx := zB3 (d := []) hs
   refine qR V <| qO V <| zP V V ((hok _).2.1) ta252 V <| qM V V V <| qO V <| zK V zK0 sz9 (by decide) V V V (zE1 hs) ?_
   refine qO V <| zO V V ta9 V <| qA V V V <| qN <| qR V <| qM V V V <| qO V <| zT0 V V V (wadd (a := i) (b := 1) V (by omega)) ?_
   refine qA V V V ?_
   have hnx := he
   rw [both_A (by omega) (by omega) (by first | exact .inl hk2 | exact .inr hlt), hgx] at hnx
   obtain ⟨hy, hnx⟩ := zT1 hnx
   replace hy : ((bothX a b).map fun x => [encX x])[j]? = some [encX x] := by rw [zH0, hy]; rfl
   have hjl := (zD.1 hy).1
   refine qN <| zB ?_
   rcases Nat.lt_or_eq_of_le hj with hjm | hjm
   ·
    refine qR V <| qM V V V <| qM V V V <| qO V <| ((hyt j _ hjm hy).at0 V V V).mono ?_
    rintro _ _ ⟨rfl, rfl⟩
    refine qO V <| zC1 V V <| qN <| zL V (V) <| zQ ?_
    refine ⟨⟨j + 1, _, _⟩, by dsimp only; omega, ⟨by dsimp only; omega, by dsimp only; omega, by dsimp only; omega, hnx⟩, rfl, (.keep V (.keep V (.keep V (.nil)))), (.eq V (V) (.eq V (V) (.nil)))⟩
   ·
    refine qR V <| qM V V V <| qM V V V <| qO V <| ((hyf j _ hjm hy).at0 V V V).mono ?_
    rintro _ _ ⟨rfl, rfl⟩
    refine qO V <| zC1 V V <| qN <| zT V (V) ?_
    refine zW0 fun hcv hcl => ?_
    refine zI ?_
    exact zF3 (S' := T (j + 1)) (by simp) zN2 (by rw [(hok _).1, (hok _).1]; exact Nat.le_refl _) hcl ⟨rfl, by rw [hjm, if_pos (by omega)]⟩
  ·
   have hk2 : ¬ k = b.length := by rw [zF] at h30; simp at h30; omega
   refine dO V V V (zY V V Vv) <| dO V V V (zP V V ((hok _).2.1) ta252 V Vv) <| dO V V V (zW1 V zK0 V Vv) <| dO V V V (zW2 V V V V Vv) <| dO V V V (zY V V Vv) ?_
   refine zT3 (fun h35 => ?_) (fun h35 => ?_)
   ·
    have hia2 : i < a.length := by rw [zF] at h35; simpa using h35
    obtain ⟨x, hs⟩ : ∃ q, a[i]? = some q := ⟨_, zC (by omega)⟩
    have hgx := zB3 (d := []) hs
    obtain ⟨y, hs2⟩ : ∃ q, b[k]? = some q := ⟨_, zC (by omega)⟩
    have hgy := zB3 (d := []) hs2
    refine dO V V V (zP V V ((hok _).2.1) ta252 V Vv) <| dO V V V (zY V V Vv) <| dO V V V (zK V zK0 sz9 (by decide) V V V (zE1 hs) Vv) ?_
    refine dO V V V (zO V V ta9 V Vv) <| dO V V V (zP V V ((hok _).2.2) ta252 V Vv) <| dO V V V (zY V V Vv) <| dO V V V (zK V zK0 sz9 (by decide) V V V (zE1 hs2) Vv) ?_
    refine dO V V V (zO V V ta9 V Vv) <| dO V V V (zS2 V V V V Vv) <| dO V V V (zO1 V V V Vv) <| dO V V V (zO1 V V V Vv) <| dO V V V (zF1 V V Vv) <| zP0 ?_
    refine zJ V (fun h25 => ?_) (fun h25 => ?_)
    ·
     have hlt : Op.bytesLess (a.getD i []) (b.getD k []) = true := by rw [hgx, hgy]; simpa using h25
     refine zB ?_
     obtain ⟨x, hs⟩ : ∃ q, a[i]? = some q := ⟨_, zC (by omega)⟩
     have hgx := zB3 (d := []) hs
     refine qR V <| qO V <| zP V V ((hok _).2.1) ta252 V <| qM V V V <| qO V <| zK V zK0 sz9 (by decide) V V V (zE1 hs) ?_
     refine qO V <| zO V V ta9 V <| qA V V V <| qN <| qR V <| qM V V V <| qO V <| zT0 V V V (wadd (a := i) (b := 1) V (by omega)) ?_
     refine qA V V V ?_
     have hnx := he
     rw [both_A (by omega) (by omega) (by first | exact .inl hk2 | exact .inr hlt), hgx] at hnx
     obtain ⟨hy, hnx⟩ := zT1 hnx
     replace hy : ((bothX a b).map fun x => [encX x])[j]? = some [encX x] := by rw [zH0, hy]; rfl
     have hjl := (zD.1 hy).1
     refine qN <| zB ?_
     rcases Nat.lt_or_eq_of_le hj with hjm | hjm
     ·
      refine qR V <| qM V V V <| qM V V V <| qO V <| ((hyt j _ hjm hy).at0 V V V).mono ?_
      rintro _ _ ⟨rfl, rfl⟩
      refine qO V <| zC1 V V <| qN <| zL V (V) <| zQ ?_
      refine ⟨⟨j + 1, _, _⟩, by dsimp only; omega, ⟨by dsimp only; omega, by dsimp only; omega, by dsimp only; omega, hnx⟩, rfl, (.keep V (.keep V (.keep V (.nil)))), (.eq V (V) (.eq V (V) (.nil)))⟩
     ·
      refine qR V <| qM V V V <| qM V V V <| qO V <| ((hyf j _ hjm hy).at0 V V V).mono ?_
      rintro _ _ ⟨rfl, rfl⟩
      refine qO V <| zC1 V V <| qN <| zT V (V) ?_
      refine zW0 fun hcv hcl => ?_
      refine zI ?_
      exact zF3 (S' := T (j + 1)) (by simp) zN2 (by rw [(hok _).1, (hok _).1]; exact Nat.le_refl _) hcl ⟨rfl, by rw [hjm, if_pos (by omega)]⟩
    ·
     have hlt : Op.bytesLess (a.getD i []) (b.getD k []) = false := by rw [hgx, hgy]; simpa using h25
     refine zB ?_
     refine zX0 [] [_] mo (by decide) V V V V ?_
     refine dO V V V (zY V V Vv) <| dO V V V (zP V V ((hok _).2.1) ta252 V Vv) <| dO V V V (zW1 V zK0 V Vv) <| dO V V V (zW2 V V V V Vv) <| dO V V V (zY V V Vv) ?_
     refine zT3 (fun h58 => ?_) (fun h58 => ?_)
     ·
      have hia3 : i = a.length := by rw [zF] at h58; simp at h58; omega
      refine dS V V <| dS V V <| dS V V <| dS V V <| dS V V <| dS V V <| dS V V <| dS V V <| dS V V <| dO V V V (zO1 V V V Vv) <| dO V V V (zF1 V V Vv) <| zP0 <| zT V (V) <| zB ?_
      obtain ⟨y, hs2⟩ : ∃ q, b[k]? = some q := ⟨_, zC (by omega)⟩
      have hgy := zB3 (d := []) hs2
      refine qR V <| qO V <| zP V V ((hok _).2.2) ta252 V <| qM V V V <| qO V <| zK V zK0 sz9 (by decide) V V V (zE1 hs2) ?_
      refine qO V <| zO V V ta9 V <| qA V V V <| qN <| qR V <| qM V V V <| qO V <| zT0 V V V (wadd (a := k) (b := 1) V (by omega)) ?_
      refine qA V V V ?_
      have hnx := he
      rw [both_B (by omega) (by omega) (by first | exact .inl hia3 | exact .inr ⟨hlt, hgt⟩ | exact .inl (by omega)), hgy] at hnx
      obtain ⟨hy, hnx⟩ := zT1 hnx
      replace hy : ((bothX a b).map fun x => [encX x])[j]? = some [encX y] := by rw [zH0, hy]; rfl
      have hjl := (zD.1 hy).1
      refine qN <| zB ?_
      rcases Nat.lt_or_eq_of_le hj with hjm | hjm
      ·
       refine qR V <| qM V V V <| qM V V V <| qO V <| ((hyt j _ hjm hy).at0 V V V).mono ?_
       rintro _ _ ⟨rfl, rfl⟩
       refine qO V <| zC1 V V <| qN <| zL V (V) <| zQ ?_
       refine ⟨⟨j + 1, _, _⟩, by dsimp only; omega, ⟨by dsimp only; omega, by dsimp only; omega, by dsimp only; omega, hnx⟩, rfl, (.keep V (.keep V (.keep V (.nil)))), (.eq V (V) (.eq V (V) (.nil)))⟩
      ·
       refine qR V <| qM V V V <| qM V V V <| qO V <| ((hyf j _ hjm hy).at0 V V V).mono ?_
       rintro _ _ ⟨rfl, rfl⟩
       refine qO V <| zC1 V V <| qN <| zT V (V) ?_
       refine zW0 fun hcv hcl => ?_
       refine zI ?_
       exact zF3 (S' := T (j + 1)) (by simp) zN2 (by rw [(hok _).1, (hok _).1]; exact Nat.le_refl _) hcl ⟨rfl, by rw [hjm, if_pos (by omega)]⟩
     ·
      have hia3 : ¬ i = a.length := by rw [zF] at h58; simp at h58; omega
      obtain ⟨x, hs⟩ : ∃ q, a[i]? = some q := ⟨_, zC (by omega)⟩
      have hgx := zB3 (d := []) hs
      obtain ⟨y, hs2⟩ : ∃ q, b[k]? = some q := ⟨_, zC (by omega)⟩
      have hgy := zB3 (d := []) hs2
      refine dO V V V (zP V V ((hok _).2.2) ta252 V Vv) <| dO V V V (zY V V Vv) <| dO V V V (zK V zK0 sz9 (by decide) V V V (zE1 hs2) Vv) ?_
      refine dO V V V (zO V V ta9 V Vv) <| dO V V V (zP V V ((hok _).2.1) ta252 V Vv) <| dO V V V (zY V V Vv) <| dO V V V (zK V zK0 sz9 (by decide) V V V (zE1 hs) Vv) ?_
      refine dO V V V (zO V V ta9 V Vv) <| dO V V V (zS2 V V V V Vv) <| dO V V V (zO1 V V V Vv) <| dO V V V (zF1 V V Vv) <| zP0 ?_
      refine zJ V (fun h53 => ?_) (fun h53 => ?_)
      ·
       have hgt : Op.bytesLess (b.getD k []) (a.getD i []) = true := by rw [hgx, hgy]; simpa using h53
       refine zB ?_
       obtain ⟨y, hs2⟩ : ∃ q, b[k]? = some q := ⟨_, zC (by omega)⟩
       have hgy := zB3 (d := []) hs2
       refine qR V <| qO V <| zP V V ((hok _).2.2) ta252 V <| qM V V V <| qO V <| zK V zK0 sz9 (by decide) V V V (zE1 hs2) ?_
       refine qO V <| zO V V ta9 V <| qA V V V <| qN <| qR V <| qM V V V <| qO V <| zT0 V V V (wadd (a := k) (b := 1) V (by omega)) ?_
       refine qA V V V ?_
       have hnx := he
       rw [both_B (by omega) (by omega) (by first | exact .inl hia3 | exact .inr ⟨hlt, hgt⟩ | exact .inl (by omega)), hgy] at hnx
       obtain ⟨hy, hnx⟩ := zT1 hnx
       replace hy : ((bothX a b).map fun x => [encX x])[j]? = some [encX y] := by rw [zH0, hy]; rfl
       have hjl := (zD.1 hy).1
       refine qN <| zB ?_
       rcases Nat.lt_or_eq_of_le hj with hjm | hjm
       ·
        refine qR V <| qM V V V <| qM V V V <| qO V <| ((hyt j _ hjm hy).at0 V V V).mono ?_
        rintro _ _ ⟨rfl, rfl⟩
        refine qO V <| zC1 V V <| qN <| zL V (V) <| zQ ?_
        refine ⟨⟨j + 1, _, _⟩, by dsimp only; omega, ⟨by dsimp only; omega, by dsimp only; omega, by dsimp only; omega, hnx⟩, rfl, (.keep V (.keep V (.keep V (.nil)))), (.eq V (V) (.eq V (V) (.nil)))⟩
       ·
        refine qR V <| qM V V V <| qM V V V <| qO V <| ((hyf j _ hjm hy).at0 V V V).mono ?_
        rintro _ _ ⟨rfl, rfl⟩
        refine qO V <| zC1 V V <| qN <| zT V (V) ?_
        refine zW0 fun hcv hcl => ?_
        refine zI ?_
        exact zF3 (S' := T (j + 1)) (by simp) zN2 (by rw [(hok _).1, (hok _).1]; exact Nat.le_refl _) hcl ⟨rfl, by rw [hjm, if_pos (by omega)]⟩
      ·
       have hgt : Op.bytesLess (b.getD k []) (a.getD i []) = false := by rw [hgx, hgy]; simpa using h53
       refine zB ?_
       obtain ⟨x, hs⟩ : ∃ q, a[i]? = some q := ⟨_, zC (by omega)⟩
       have hgx := zB3 (d := []) hs
       refine qR V <| qO V <| zP V V ((hok _).2.1) ta252 V <| qM V V V <| qO V <| zK V zK0 sz9 (by decide) V V V (zE1 hs) ?_
       refine qO V <| zO V V ta9 V <| qA V V V <| qN <| qR V <| qM V V V <| qO V <| zT0 V V V (wadd (a := i) (b := 1) V (by omega)) ?_
       refine qM V V V <| qO V <| zT0 V V V (wadd (a := k) (b := 1) V (by omega)) ?_
       refine qA V V V <| qA V V V ?_
       have hnx := he
       rw [both_C (by omega) (by omega) (by first | exact hlt | (exfalso; omega)) hgt, hgx] at hnx
       obtain ⟨hy, hnx⟩ := zT1 hnx
       replace hy : ((bothX a b).map fun x => [encX x])[j]? = some [encX x] := by rw [zH0, hy]; rfl
       have hjl := (zD.1 hy).1
       refine qN <| zB ?_
       rcases Nat.lt_or_eq_of_le hj with hjm | hjm
       ·
        refine qR V <| qM V V V <| qM V V V <| qO V <| ((hyt j _ hjm hy).at0 V V V).mono ?_
        rintro _ _ ⟨rfl, rfl⟩
        refine qO V <| zC1 V V <| qN <| zL V (V) <| zQ ?_
        refine ⟨⟨j + 1, _, _⟩, by dsimp only; omega, ⟨by dsimp only; omega, by dsimp only; omega, by dsimp only; omega, hnx⟩, rfl, (.keep V (.keep V (.keep V (.nil)))), (.eq V (V) (.eq V (V) (.nil)))⟩
       ·
        refine qR V <| qM V V V <| qM V V V <| qO V <| ((hyf j _ hjm hy).at0 V V V).mono ?_
        rintro _ _ ⟨rfl, rfl⟩
        refine qO V <| zC1 V V <| qN <| zT V (V) ?_
        refine zW0 fun hcv hcl => ?_
        refine zI ?_
        exact zF3 (S' := T (j + 1)) (by simp) zN2 (by rw [(hok _).1, (hok _).1]; exact Nat.le_refl _) hcl ⟨rfl, by rw [hjm, if_pos (by omega)]⟩
   ·
    have hia2 : ¬ i < a.length := by rw [zF] at h35; simp at h35; omega
    refine dS V V <| dS V V <| dS V V <| dS V V <| dS V V <| dS V V <| dS V V <| dS V V <| dS V V <| dO V V V (zO1 V V V Vv) <| dO V V V (zO1 V V V Vv) <| dO V V V (zF1 V V Vv) <| zP0 <| zL V (V) <| zB ?_
    refine zX0 [] [_] mo (by decide) V V V V ?_
    refine dO V V V (zY V V Vv) <| dO V V V (zP V V ((hok _).2.1) ta252 V Vv) <| dO V V V (zW1 V zK0 V Vv) <| dO V V V (zW2 V V V V Vv) <| dO V V V (zY V V Vv) ?_
    refine zT3 (fun h58 => ?_) (fun h58 => ?_)
    ·
     have hia3 : i = a.length := by rw [zF] at h58; simp at h58; omega
     refine dS V V <| dS V V <| dS V V <| dS V V <| dS V V <| dS V V <| dS V V <| dS V V <| dS V V <| dO V V V (zO1 V V V Vv) <| dO V V V (zF1 V V Vv) <| zP0 <| zT V (V) <| zB ?_
     obtain ⟨y, hs2⟩ : ∃ q, b[k]? = some q := ⟨_, zC (by omega)⟩
     have hgy := zB3 (d := []) hs2
     refine qR V <| qO V <| zP V V ((hok _).2.2) ta252 V <| qM V V V <| qO V <| zK V zK0 sz9 (by decide) V V V (zE1 hs2) ?_
     refine qO V <| zO V V ta9 V <| qA V V V <| qN <| qR V <| qM V V V <| qO V <| zT0 V V V (wadd (a := k) (b := 1) V (by omega)) ?_
     refine qA V V V ?_
     have hnx := he
     rw [both_B (by omega) (by omega) (by first | exact .inl hia3 | exact .inr ⟨hlt, hgt⟩ | exact .inl (by omega)), hgy] at hnx
     obtain ⟨hy, hnx⟩ := zT1 hnx
     replace hy : ((bothX a b).map fun x => [encX x])[j]? = some [encX y] := by rw [zH0, hy]; rfl
     have hjl := (zD.1 hy).1
     refine qN <| zB ?_
     rcases Nat.lt_or_eq_of_le hj with hjm | hjm
     ·
      refine qR V <| qM V V V <| qM V V V <| qO V <| ((hyt j _ hjm hy).at0 V V V).mono ?_
      rintro _ _ ⟨rfl, rfl⟩
      refine qO V <| zC1 V V <| qN <| zL V (V) <| zQ ?_
      refine ⟨⟨j + 1, _, _⟩, by dsimp only; omega, ⟨by dsimp only; omega, by dsimp only; omega, by dsimp only; omega, hnx⟩, rfl, (.keep V (.keep V (.keep V (.nil)))), (.eq V (V) (.eq V (V) (.nil)))⟩
     ·
      refine qR V <| qM V V V <| qM V V V <| qO V <| ((hyf j _ hjm hy).at0 V V V).mono ?_
      rintro _ _ ⟨rfl, rfl⟩
      refine qO V <| zC1 V V <| qN <| zT V (V) ?_
      refine zW0 fun hcv hcl => ?_
      refine zI ?_
      exact zF3 (S' := T (j + 1)) (by simp) zN2 (by rw [(hok _).1, (hok _).1]; exact Nat.le_refl _) hcl ⟨rfl, by rw [hjm, if_pos (by omega)]⟩
    ·
     have hia3 : ¬ i = a.length := by rw [zF] at h58; simp at h58; omega
     obtain ⟨x, hs⟩ : ∃ q, a[i]? = some q := ⟨_, zC (by omega)⟩
     have hgx := zB3 (d := []) hs
     obtain ⟨y, hs2⟩ : ∃ q, b[k]? = some q := ⟨_, zC (by omega)⟩
     have hgy := zB3 (d := []) hs2
     refine dO V V V (zP V V ((hok _).2.2) ta252 V Vv) <| dO V V V (zY V V Vv) <| dO V V V (zK V zK0 sz9 (by decide) V V V (zE1 hs2) Vv) ?_
     refine dO V V V (zO V V ta9 V Vv) <| dO V V V (zP V V ((hok _).2.1) ta252 V Vv) <| dO V V V (zY V V Vv) <| dO V V V (zK V zK0 sz9 (by decide) V V V (zE1 hs) Vv) ?_
     refine dO V V V (zO V V ta9 V Vv) <| dO V V V (zS2 V V V V Vv) <| dO V V V (zO1 V V V Vv) <| dO V V V (zF1 V V Vv) <| zP0 ?_
     refine zJ V (fun h53 => ?_) (fun h53 => ?_)
     ·
      have hgt : Op.bytesLess (b.getD k []) (a.getD i []) = true := by rw [hgx, hgy]; simpa using h53
      refine zB ?_
      obtain ⟨y, hs2⟩ : ∃ q, b[k]? = some q := ⟨_, zC (by omega)⟩
      have hgy := zB3 (d := []) hs2
      refine qR V <| qO V <| zP V V ((hok _).2.2) ta252 V <| qM V V V <| qO V <| zK V zK0 sz9 (by decide) V V V (zE1 hs2) ?_
      refine qO V <| zO V V ta9 V <| qA V V V <| qN <| qR V <| qM V V V <| qO V <| zT0 V V V (wadd (a := k) (b := 1) V (by omega)) ?_
      refine qA V V V ?_
      have hnx := he
      rw [both_B (by omega) (by omega) (by first | exact .inl hia3 | exact .inr ⟨hlt, hgt⟩ | exact .inl (by omega)), hgy] at hnx
      obtain ⟨hy, hnx⟩ := zT1 hnx
      replace hy : ((bothX a b).map fun x => [encX x])[j]? = some [encX y] := by rw [zH0, hy]; rfl
      have hjl := (zD.1 hy).1
      refine qN <| zB ?_
      rcases Nat.lt_or_eq_of_le hj with hjm | hjm
      ·
       refine qR V <| qM V V V <| qM V V V <| qO V <| ((hyt j _ hjm hy).at0 V V V).mono ?_
       rintro _ _ ⟨rfl, rfl⟩
       refine qO V <| zC1 V V <| qN <| zL V (V) <| zQ ?_
       refine ⟨⟨j + 1, _, _⟩, by dsimp only; omega, ⟨by dsimp only; omega, by dsimp only; omega, by dsimp only; omega, hnx⟩, rfl, (.keep V (.keep V (.keep V (.nil)))), (.eq V (V) (.eq V (V) (.nil)))⟩
      ·
       refine qR V <| qM V V V <| qM V V V <| qO V <| ((hyf j _ hjm hy).at0 V V V).mono ?_
       rintro _ _ ⟨rfl, rfl⟩
       refine qO V <| zC1 V V <| qN <| zT V (V) ?_
       refine zW0 fun hcv hcl => ?_
       refine zI ?_
       exact zF3 (S' := T (j + 1)) (by simp) zN2 (by rw [(hok _).1, (hok _).1]; exact Nat.le_refl _) hcl ⟨rfl, by rw [hjm, if_pos (by omega)]⟩
     ·
      have hgt : Op.bytesLess (b.getD k []) (a.getD i []) = false := by rw [hgx, hgy]; simpa using h53
      refine zB ?_
      obtain ⟨x, hs⟩ : ∃ q, a[i]? = some q := ⟨_, zC (by omega)⟩
      have hgx := zB3 (d := []) hs
      refine qR V <| qO V <| zP V V ((hok _).2.1) ta252 V <| qM V V V <| qO V <| zK V zK0 sz9 (by decide) V V V (zE1 hs) ?_
      refine qO V <| zO V V ta9 V <| qA V V V <| qN <| qR V <| qM V V V <| qO V <| zT0 V V V (wadd (a := i) (b := 1) V (by omega)) ?_
      refine qM V V V <| qO V <| zT0 V V V (wadd (a := k) (b := 1) V (by omega)) ?_
      refine qA V V V <| qA V V V ?_
      have hnx := he
      rw [both_C (by omega) (by omega) (by first | exact hlt | (exfalso; omega)) hgt, hgx] at hnx
      obtain ⟨hy, hnx⟩ := zT1 hnx
      replace hy : ((bothX a b).map fun x => [encX x])[j]? = some [encX x] := by rw [zH0, hy]; rfl
      have hjl := (zD.1 hy).1
      refine qN <| zB ?_
      rcases Nat.lt_or_eq_of_le hj with hjm | hjm
      ·
       refine qR V <| qM V V V <| qM V V V <| qO V <| ((hyt j _ hjm hy).at0 V V V).mono ?_
       rintro _ _ ⟨rfl, rfl⟩
       refine qO V <| zC1 V V <| qN <| zL V (V) <| zQ ?_
       refine ⟨⟨j + 1, _, _⟩, by dsimp only; omega, ⟨by dsimp only; omega, by dsimp only; omega, by dsimp only; omega, hnx⟩, rfl, (.keep V (.keep V (.keep V (.nil)))), (.eq V (V) (.eq V (V) (.nil)))⟩
      ·
       refine qR V <| qM V V V <| qM V V V <| qO V <| ((hyf j _ hjm hy).at0 V V V).mono ?_
       rintro _ _ ⟨rfl, rfl⟩
       refine qO V <| zC1 V V <| qN <| zT V (V) ?_
       refine zW0 fun hcv hcl => ?_
       refine zI ?_
       exact zF3 (S' := T (j + 1)) (by simp) zN2 (by rw [(hok _).1, (hok _).1]; exact Nat.le_refl _) hcl ⟨rfl, by rw [hjm, if_pos (by omega)]⟩
 ·
  have hia : ¬ i < a.length := by rw [zF] at h11; simp at h11; omega
  refine qM V V V <| qO V <| zP V V ((hok _).2.2) ta252 V <| qE V V zK0 V <| qC V V V V V <| qP V V V V <| qN ?_
  refine zJ V (fun h16 => ?_) (fun h16 => ?_)
  ·
   have hkb : k < b.length := by rw [zF] at h16; simpa using h16
   refine zQ <| zX <| zB <| qR V <| qA V V V <| qN <| zB <| zX <| zB ?_
   refine zX0 [] [_] mo (by decide) V V V V ?_
   refine dO V V V (zY V V Vv) <| dO V V V (zP V V ((hok _).2.2) ta252 V Vv) <| dO V V V (zW1 V zK0 V Vv) <| dO V V V (zW2 V V V V Vv) <| dO V V V (zY V V Vv) ?_
   refine zT3 (fun h30 => ?_) (fun h30 => ?_)
   ·
    have hk2 : k = b.length := by rw [zF] at h30; simp at h30; omega
    refine dS V V <| dS V V <| dS V V <| dS V V <| dS V V <| dS V V <| dS V V <| dS V V <| dS V V <| dS V V <| dS V V <| dS V V <| dS V V <| dS V V <| dS V V <| dO V V V (zO1 V V V Vv) <| dO V V V (zF1 V V Vv) <| zP0 <| zT V (V) <| zB ?_
    obtain ⟨x, hs⟩ : ∃ q, a[i]? = some q := ⟨_, zC (by omega)⟩
    have hgx := zB3 (d := []) hs
    refine qR V <| qO V <| zP V V ((hok _).2.1) ta252 V <| qM V V V <| qO V <| zK V zK0 sz9 (by decide) V V V (zE1 hs) ?_
    refine qO V <| zO V V ta9 V <| qA V V V <| qN <| qR V <| qM V V V <| qO V <| zT0 V V V (wadd (a := i) (b := 1) V (by omega)) ?_
    refine qA V V V ?_
    have hnx := he
    rw [both_A (by omega) (by omega) (by first | exact .inl hk2 | exact .inr hlt), hgx] at hnx
    obtain ⟨hy, hnx⟩ := zT1 hnx
    replace hy : ((bothX a b).map fun x => [encX x])[j]? = some [encX x] := by rw [zH0, hy]; rfl
    have hjl := (zD.1 hy).1
    refine qN <| zB ?_
    rcases Nat.lt_or_eq_of_le hj with hjm | hjm
    ·
     refine qR V <| qM V V V <| qM V V V <| qO V <| ((hyt j _ hjm hy).at0 V V V).mono ?_
     rintro _ _ ⟨rfl, rfl⟩
     refine qO V <| zC1 V V <| qN <| zL V (V) <| zQ ?_
     refine ⟨⟨j + 1, _, _⟩, by dsimp only; omega, ⟨by dsimp only; omega, by dsimp only; omega, by dsimp only; omega, hnx⟩, rfl, (.keep V (.keep V (.keep V (.nil)))), (.eq V (V) (.eq V (V) (.nil)))⟩
    ·
     refine qR V <| qM V V V <| qM V V V <| qO V <| ((hyf j _ hjm hy).at0 V V V).mono ?_
     rintro _ _ ⟨rfl, rfl⟩
     refine qO V <| zC1 V V <| qN <| zT V (V) ?_
     refine zW0 fun hcv hcl => ?_
     refine zI ?_
     exact zF3 (S' := T (j + 1)) (by simp) zN2 (by rw [(hok _).1, (hok _).1]; exact Nat.le_refl _) hcl ⟨rfl, by rw [hjm, if_pos (by omega)]⟩
   ·
    have hk2 : ¬ k = b.length := by rw [zF] at h30; simp at h30; omega
    refine dO V V V (zY V V Vv) <| dO V V V (zP V V ((hok _).2.1) ta252 V Vv) <| dO V V V (zW1 V zK0 V Vv) <| dO V V V (zW2 V V V V Vv) <| dO V V V (zY V V Vv) ?_
    refine zT3 (fun h35 => ?_) (fun h35 => ?_)
    ·
     have hia2 : i < a.length := by rw [zF] at h35; simpa using h35
     obtain ⟨x, hs⟩ : ∃ q, a[i]? = some q := ⟨_, zC (by omega)⟩
     have hgx := zB3 (d := []) hs
     obtain ⟨y, hs2⟩ : ∃ q, b[k]? = some q := ⟨_, zC (by omega)⟩
     have hgy := zB3 (d := []) hs2
     refine dO V V V (zP V V ((hok _).2.1) ta252 V Vv) <| dO V V V (zY V V Vv) <| dO V V V (zK V zK0 sz9 (by decide) V V V (zE1 hs) Vv) ?_
     refine dO V V V (zO V V ta9 V Vv) <| dO V V V (zP V V ((hok _).2.2) ta252 V Vv) <| dO V V V (zY V V Vv) <| dO V V V (zK V zK0 sz9 (by decide) V V V (zE1 hs2) Vv) ?_
     refine dO V V V (zO V V ta9 V Vv) <| dO V V V (zS2 V V V V Vv) <| dO V V V (zO1 V V V Vv) <| dO V V V (zO1 V V V Vv) <| dO V V V (zF1 V V Vv) <| zP0 ?_
     refine zJ V (fun h25 => ?_) (fun h25 => ?_)
     ·
      have hlt : Op.bytesLess (a.getD i []) (b.getD k []) = true := by rw [hgx, hgy]; simpa using h25
      refine zB ?_
      obtain ⟨x, hs⟩ : ∃ q, a[i]? = some q := ⟨_, zC (by omega)⟩
      have hgx := zB3 (d := []) hs
      refine qR V <| qO V <| zP V V ((hok _).2.1) ta252 V <| qM V V V <| qO V <| zK V zK0 sz9 (by decide) V V V (zE1 hs) ?_
      refine qO V <| zO V V ta9 V <| qA V V V <| qN <| qR V <| qM V V V <| qO V <| zT0 V V V (wadd (a := i) (b := 1) V (by omega)) ?_
      refine qA V V V ?_
      have hnx := he
      rw [both_A (by omega) (by omega) (by first | exact .inl hk2 | exact .inr hlt), hgx] at hnx
      obtain ⟨hy, hnx⟩ := zT1 hnx
      replace hy : ((bothX a b).map fun x => [encX x])[j]? = some [encX x] := by rw [zH0, hy]; rfl
      have hjl := (zD.1 hy).1
      refine qN <| zB ?_
      rcases Nat.lt_or_eq_of_le hj with hjm | hjm
      ·
       refine qR V <| qM V V V <| qM V V V <| qO V <| ((hyt j _ hjm hy).at0 V V V).mono ?_
       rintro _ _ ⟨rfl, rfl⟩
       refine qO V <| zC1 V V <| qN <| zL V (V) <| zQ ?_
       refine ⟨⟨j + 1, _, _⟩, by dsimp only; omega, ⟨by dsimp only; omega, by dsimp only; omega, by dsimp only; omega, hnx⟩, rfl, (.keep V (.keep V (.keep V (.nil)))), (.eq V (V) (.eq V (V) (.nil)))⟩
      ·
       refine qR V <| qM V V V <| qM V V V <| qO V <| ((hyf j _ hjm hy).at0 V V V).mono ?_
       rintro _ _ ⟨rfl, rfl⟩
       refine qO V <| zC1 V V <| qN <| zT V (V) ?_
       refine zW0 fun hcv hcl => ?_
       refine zI ?_
       exact zF3 (S' := T (j + 1)) (by simp) zN2 (by rw [(hok _).1, (hok _).1]; exact Nat.le_refl _) hcl ⟨rfl, by rw [hjm, if_pos (by omega)]⟩
     ·
      have hlt : Op.bytesLess (a.getD i []) (b.getD k []) = false := by rw [hgx, hgy]; simpa using h25
      refine zB ?_
      refine zX0 [] [_] mo (by decide) V V V V ?_
      refine dO V V V (zY V V Vv) <| dO V V V (zP V V ((hok _).2.1) ta252 V Vv) <| dO V V V (zW1 V zK0 V Vv) <| dO V V V (zW2 V V V V Vv) <| dO V V V (zY V V Vv) ?_
      refine zT3 (fun h58 => ?_) (fun h58 => ?_)
      ·
       have hia3 : i = a.length := by rw [zF] at h58; simp at h58; omega
       refine dS V V <| dS V V <| dS V V <| dS V V <| dS V V <| dS V V <| dS V V <| dS V V <| dS V V <| dO V V V (zO1 V V V Vv) <| dO V V V (zF1 V V Vv) <| zP0 <| zT V (V) <| zB ?_
       obtain ⟨y, hs2⟩ : ∃ q, b[k]? = some q := ⟨_, zC (by omega)⟩
       have hgy := zB3 (d := []) hs2
       refine qR V <| qO V <| zP V V ((hok _).2.2) ta252 V <| qM V V V <| qO V <| zK V zK0 sz9 (by decide) V V V (zE1 hs2) ?_
       refine qO V <| zO V V ta9 V <| qA V V V <| qN <| qR V <| qM V V V <| qO V <| zT0 V V V (wadd (a := k) (b := 1) V (by omega)) ?_
       refine qA V V V ?_
       have hnx := he
       rw [both_B (by omega) (by omega) (by first | exact .inl hia3 | exact .inr ⟨hlt, hgt⟩ | exact .inl (by omega)), hgy] at hnx
       obtain ⟨hy, hnx⟩ := zT1 hnx
       replace hy : ((bothX a b).map fun x => [encX x])[j]? = some [encX y] := by rw [zH0, hy]; rfl
       have hjl := (zD.1 hy).1
       refine qN <| zB ?_
       rcases Nat.lt_or_eq_of_le hj with hjm | hjm
       ·
        refine qR V <| qM V V V <| qM V V V <| qO V <| ((hyt j _ hjm hy).at0 V V V).mono ?_
        rintro _ _ ⟨rfl, rfl⟩
        refine qO V <| zC1 V V <| qN <| zL V (V) <| zQ ?_
        refine ⟨⟨j + 1, _, _⟩, by dsimp only; omega, ⟨by dsimp only; omega, by dsimp only; omega, by dsimp only; omega, hnx⟩, rfl, (.keep V (.keep V (.keep V (.nil)))), (.eq V (V) (.eq V (V) (.nil)))⟩
       ·
        refine qR V <| qM V V V <| qM V V V <| qO V <| ((hyf j _ hjm hy).at0 V V V).mono ?_
        rintro _ _ ⟨rfl, rfl⟩
        refine qO V <| zC1 V V <| qN <| zT V (V) ?_
        refine zW0 fun hcv hcl => ?_
        refine zI ?_
        exact zF3 (S' := T (j + 1)) (by simp) zN2 (by rw [(hok _).1, (hok _).1]; exact Nat.le_refl _) hcl ⟨rfl, by rw [hjm, if_pos (by omega)]⟩
      ·
       have hia3 : ¬ i = a.length := by rw [zF] at h58; simp at h58; omega
       obtain ⟨x, hs⟩ : ∃ q, a[i]? = some q := ⟨_, zC (by omega)⟩
       have hgx := zB3 (d := []) hs
       obtain ⟨y, hs2⟩ : ∃ q, b[k]? = some q := ⟨_, zC (by omega)⟩
       have hgy := zB3 (d := []) hs2
       refine dO V V V (zP V V ((hok _).2.2) ta252 V Vv) <| dO V V V (zY V V Vv) <| dO V V V (zK V zK0 sz9 (by decide) V V V (zE1 hs2) Vv) ?_
       refine dO V V V (zO V V ta9 V Vv) <| dO V V V (zP V V ((hok _).2.1) ta252 V Vv) <| dO V V V (zY V V Vv) <| dO V V V (zK V zK0 sz9 (by decide) V V V (zE1 hs) Vv) ?_
       refine dO V V V (zO V V ta9 V Vv) <| dO V V V (zS2 V V V V Vv) <| dO V V V (zO1 V V V Vv) <| dO V V V (zF1 V V Vv) <| zP0 ?_
       refine zJ V (fun h53 => ?_) (fun h53 => ?_)
       ·
        have hgt : Op.bytesLess (b.getD k []) (a.getD i []) = true := by rw [hgx, hgy]; simpa using h53
        refine zB ?_
        obtain ⟨y, hs2⟩ : ∃ q, b[k]? = some q := ⟨_, zC (by omega)⟩
        have hgy := zB3 (d := []) hs2
        refine qR V <| qO V <| zP V V ((hok _).2.2) ta252 V <| qM V V V <| qO V <| zK V zK0 sz9 (by decide) V V V (zE1 hs2) ?_
        refine qO V <| zO V V ta9 V <| qA V V V <| qN <| qR V <| qM V V V <| qO V <| zT0 V V V (wadd (a := k) (b := 1) V (by omega)) ?_
        refine qA V V V ?_
        have hnx := he
        rw [both_B (by omega) (by omega) (by first | exact .inl hia3 | exact .inr ⟨hlt, hgt⟩ | exact .inl (by omega)), hgy] at hnx
        obtain ⟨hy, hnx⟩ := zT1 hnx
        replace hy : ((bothX a b).map fun x => [encX x])[j]? = some [encX y] := by rw [zH0, hy]; rfl
        have hjl := (zD.1 hy).1
        refine qN <| zB ?_
        rcases Nat.lt_or_eq_of_le hj with hjm | hjm
        ·
         refine qR V <| qM V V V <| qM V V V <| qO V <| ((hyt j _ hjm hy).at0 V V V).mono ?_
         rintro _ _ ⟨rfl, rfl⟩
         refine qO V <| zC1 V V <| qN <| zL V (V) <| zQ ?_
         refine ⟨⟨j + 1, _, _⟩, by dsimp only; omega, ⟨by dsimp only; omega, by dsimp only; omega, by dsimp only; omega, hnx⟩, rfl, (.keep V (.keep V (.keep V (.nil)))), (.eq V (V) (.eq V (V) (.nil)))⟩
        ·
         refine qR V <| qM V V V <| qM V V V <| qO V <| ((hyf j _ hjm hy).at0 V V V).mono ?_
         rintro _ _ ⟨rfl, rfl⟩
         refine qO V <| zC1 V V <| qN <| zT V (V) ?_
         refine zW0 fun hcv hcl => ?_
         refine zI ?_
         exact zF3 (S' := T (j + 1)) (by simp) zN2 (by rw [(hok _).1, (hok _).1]; exact Nat.le_refl _) hcl ⟨rfl, by rw [hjm, if_pos (by omega)]⟩
       ·
        have hgt : Op.bytesLess (b.getD k []) (a.getD i []) = false := by rw [hgx, hgy]; simpa using h53
        refine zB ?_
        obtain ⟨x, hs⟩ : ∃ q, a[i]? = some q := ⟨_, zC (by omega)⟩
        have hgx := zB3 (d := []) hs
        refine qR V <| qO V <| zP V V ((hok _).2.1) ta252 V <| qM V V V <| qO V <| zK V zK0 sz9 (by decide) V V V (zE1 hs) ?_
        refine qO V <| zO V V ta9 V <| qA V V V <| qN <| qR V <| qM V V V <| qO V <| zT0 V V V (wadd (a := i) (b := 1) V (by omega)) ?_
        refine qM V V V <| qO V <| zT0 V V V (wadd (a := k) (b := 1) V (by omega)) ?_
        refine qA V V V <| qA V V V ?_
        have hnx := he
        rw [both_C (by omega) (by omega) (by first | exact hlt | (exfalso; omega)) hgt, hgx] at hnx
        obtain ⟨hy, hnx⟩ := zT1 hnx
        replace hy : ((bothX a b).map fun x => [encX x])[j]? = some [encX x] := by rw [zH0, hy]; rfl
        have hjl := (zD.1 hy).1
        refine qN <| zB ?_
        rcases Nat.lt_or_eq_of_le hj with hjm | hjm
        ·
         refine qR V <| qM V V V <| qM V V V <| qO V <| ((hyt j _ hjm hy).at0 V V V).mono ?_
         rintro _ _ ⟨rfl, rfl⟩
         refine qO V <| zC1 V V <| qN <| zL V (V) <| zQ ?_
         refine ⟨⟨j + 1, _, _⟩, by dsimp only; omega, ⟨by dsimp only; omega, by dsimp only; omega, by dsimp only; omega, hnx⟩, rfl, (.keep V (.keep V (.keep V (.nil)))), (.eq V (V) (.eq V (V) (.nil)))⟩
        ·
         refine qR V <| qM V V V <| qM V V V <| qO V <| ((hyf j _ hjm hy).at0 V V V).mono ?_
         rintro _ _ ⟨rfl, rfl⟩
         refine qO V <| zC1 V V <| qN <| zT V (V) ?_
         refine zW0 fun hcv hcl => ?_
         refine zI ?_
         exact zF3 (S' := T (j + 1)) (by simp) zN2 (by rw [(hok _).1, (hok _).1]; exact Nat.le_refl _) hcl ⟨rfl, by rw [hjm, if_pos (by omega)]⟩
    ·
     have hia2 : ¬ i < a.length := by rw [zF] at h35; simp at h35; omega
     refine dS V V <| dS V V <| dS V V <| dS V V <| dS V V <| dS V V <| dS V V <| dS V V <| dS V V <| dO V V V (zO1 V V V Vv) <| dO V V V (zO1 V V V Vv) <| dO V V V (zF1 V V Vv) <| zP0 <| zL V (V) <| zB ?_
     refine zX0 [] [_] mo (by decide) V V V V ?_
     refine dO V V V (zY V V Vv) <| dO V V V (zP V V ((hok _).2.1) ta252 V Vv) <| dO V V V (zW1 V zK0 V Vv) <| dO V V V (zW2 V V V V Vv) <| dO V V V (zY V V Vv) ?_
     refine zT3 (fun h58 => ?_) (fun h58 => ?_)
     ·
      have hia3 : i = a.length := by rw [zF] at h58; simp at h58; omega
      refine dS V V <| dS V V <| dS V V <| dS V V <| dS V V <| dS V V <| dS V V <| dS V V <| dS V V <| dO V V V (zO1 V V V Vv) <| dO V V V (zF1 V V Vv) <| zP0 <| zT V (V) <| zB ?_
      obtain ⟨y, hs2⟩ : ∃ q, b[k]? = some q := ⟨_, zC (by omega)⟩
      have hgy := zB3 (d := []) hs2
      refine qR V <| qO V <| zP V V ((hok _).2.2) ta252 V <| qM V V V <| qO V <| zK V zK0 sz9 (by decide) V V V (zE1 hs2) ?_
      refine qO V <| zO V V ta9 V <| qA V V V <| qN <| qR V <| qM V V V <| qO V <| zT0 V V V (wadd (a := k) (b := 1) V (by omega)) ?_
      refine qA V V V ?_
      have hnx := he
      rw [both_B (by omega) (by omega) (by first | exact .inl hia3 | exact .inr ⟨hlt, hgt⟩ | exact .inl (by omega)), hgy] at hnx
      obtain ⟨hy, hnx⟩ := zT1 hnx
      replace hy : ((bothX a b).map fun x => [encX x])[j]? = some [encX y] := by rw [zH0, hy]; rfl
      have hjl := (zD.1 hy).1
      refine qN <| zB ?_
      rcases Nat.lt_or_eq_of_le hj with hjm | hjm
      ·
       refine qR V <| qM V V V <| qM V V V <| qO V <| ((hyt j _ hjm hy).at0 V V V).mono ?_
       rintro _ _ ⟨rfl, rfl⟩
       refine qO V <| zC1 V V <| qN <| zL V (V) <| zQ ?_
       refine ⟨⟨j + 1, _, _⟩, by dsimp only; omega, ⟨by dsimp only; omega, by dsimp only; omega, by dsimp only; omega, hnx⟩, rfl, (.keep V (.keep V (.keep V (.nil)))), (.eq V (V) (.eq V (V) (.nil)))⟩
      ·
       refine qR V <| qM V V V <| qM V V V <| qO V <| ((hyf j _ hjm hy).at0 V V V).mono ?_
       rintro _ _ ⟨rfl, rfl⟩
       refine qO V <| zC1 V V <| qN <| zT V (V) ?_
       refine zW0 fun hcv hcl => ?_
       refine zI ?_
       exact zF3 (S' := T (j + 1)) (by simp) zN2 (by rw [(hok _).1, (hok _).1]; exact Nat.le_refl _) hcl ⟨rfl, by rw [hjm, if_pos (by omega)]⟩
     ·
      have hia3 : ¬ i = a.length := by rw [zF] at h58; simp at h58; omega
      obtain ⟨x, hs⟩ : ∃ q, a[i]? = some q := ⟨_, zC (by omega)⟩
      have hgx := zB3 (d := []) hs
      obtain ⟨y, hs2⟩ : ∃ q, b[k]? = some q := ⟨_, zC (by omega)⟩
      have hgy := zB3 (d := []) hs2
      refine dO V V V (zP V V ((hok _).2.2) ta252 V Vv) <| dO V V V (zY V V Vv) <| dO V V V (zK V zK0 sz9 (by decide) V V V (zE1 hs2) Vv) ?_
      refine dO V V V (zO V V ta9 V Vv) <| dO V V V (zP V V ((hok _).2.1) ta252 V Vv) <| dO V V V (zY V V Vv) <| dO V V V (zK V zK0 sz9 (by decide) V V V (zE1 hs) Vv) ?_
      refine dO V V V (zO V V ta9 V Vv) <| dO V V V (zS2 V V V V Vv) <| dO V V V (zO1 V V V Vv) <| dO V V V (zF1 V V Vv) <| zP0 ?_
      refine zJ V (fun h53 => ?_) (fun h53 => ?_)
      ·
       have hgt : Op.bytesLess (b.getD k []) (a.getD i []) = true := by rw [hgx, hgy]; simpa using h53
       refine zB ?_
       obtain ⟨y, hs2⟩ : ∃ q, b[k]? = some q := ⟨_, zC (by omega)⟩
       have hgy := zB3 (d := []) hs2
       refine qR V <| qO V <| zP V V ((hok _).2.2) ta252 V <| qM V V V <| qO V <| zK V zK0 sz9 (by decide) V V V (zE1 hs2) ?_
       refine qO V <| zO V V ta9 V <| qA V V V <| qN <| qR V <| qM V V V <| qO V <| zT0 V V V (wadd (a := k) (b := 1) V (by omega)) ?_
       refine qA V V V ?_
       have hnx := he
       rw [both_B (by omega) (by omega) (by first | exact .inl hia3 | exact .inr ⟨hlt, hgt⟩ | exact .inl (by omega)), hgy] at hnx
       obtain ⟨hy, hnx⟩ := zT1 hnx
       replace hy : ((bothX a b).map fun x => [encX x])[j]? = some [encX y] := by rw [zH0, hy]; rfl
       have hjl := (zD.1 hy).1
       refine qN <| zB ?_
       rcases Nat.lt_or_eq_of_le hj with hjm | hjm
       ·
        refine qR V <| qM V V V <| qM V V V <| qO V <| ((hyt j _ hjm hy).at0 V V V).mono ?_
        rintro _ _ ⟨rfl, rfl⟩
        refine qO V <| zC1 V V <| qN <| zL V (V) <| zQ ?_
        refine ⟨⟨j + 1, _, _⟩, by dsimp only; omega, ⟨by dsimp only; omega, by dsimp only; omega, by dsimp only; omega, hnx⟩, rfl, (.keep V (.keep V (.keep V (.nil)))), (.eq V (V) (.eq V (V) (.nil)))⟩
       ·
        refine qR V <| qM V V V <| qM V V V <| qO V <| ((hyf j _ hjm hy).at0 V V V).mono ?_
        rintro _ _ ⟨rfl, rfl⟩
        refine qO V <| zC1 V V <| qN <| zT V (V) ?_
        refine zW0 fun hcv hcl => ?_
        refine zI ?_
        exact zF3 (S' := T (j + 1)) (by simp) zN2 (by rw [(hok _).1, (hok _).1]; exact Nat.le_refl _) hcl ⟨rfl, by rw [hjm, if_pos (by omega)]⟩
      ·
       have hgt : Op.bytesLess (b.getD k []) (a.getD i []) = false := by rw [hgx, hgy]; simpa using h53
       refine zB ?_
       obtain ⟨x, hs⟩ : ∃ q, a[i]? = some q := ⟨_, zC (by omega)⟩
       have hgx := zB3 (d := []) hs
       refine qR V <| qO V <| zP V V ((hok _).2.1) ta252 V <| qM V V V <| qO V <| zK V zK0 sz9 (by decide) V V V (zE1 hs) ?_
       refine qO V <| zO V V ta9 V <| qA V V V <| qN <| qR V <| qM V V V <| qO V <| zT0 V V V (wadd (a := i) (b := 1) V (by omega)) ?_
       refine qM V V V <| qO V <| zT0 V V V (wadd (a := k) (b := 1) V (by omega)) ?_
       refine qA V V V <| qA V V V ?_
       have hnx := he
       rw [both_C (by omega) (by omega) (by first | exact hlt | (exfalso; omega)) hgt, hgx] at hnx
       obtain ⟨hy, hnx⟩ := zT1 hnx
       replace hy : ((bothX a b).map fun x => [encX x])[j]? = some [encX x] := by rw [zH0, hy]; rfl
       have hjl := (zD.1 hy).1
       refine qN <| zB ?_
       rcases Nat.lt_or_eq_of_le hj with hjm | hjm
       ·
        refine qR V <| qM V V V <| qM V V V <| qO V <| ((hyt j _ hjm hy).at0 V V V).mono ?_
        rintro _ _ ⟨rfl, rfl⟩
        refine qO V <| zC1 V V <| qN <| zL V (V) <| zQ ?_
        refine ⟨⟨j + 1, _, _⟩, by dsimp only; omega, ⟨by dsimp only; omega, by dsimp only; omega, by dsimp only; omega, hnx⟩, rfl, (.keep V (.keep V (.keep V (.nil)))), (.eq V (V) (.eq V (V) (.nil)))⟩
       ·
        refine qR V <| qM V V V <| qM V V V <| qO V <| ((hyf j _ hjm hy).at0 V V V).mono ?_
        rintro _ _ ⟨rfl, rfl⟩
        refine qO V <| zC1 V V <| qN <| zT V (V) ?_
        refine zW0 fun hcv hcl => ?_
        refine zI ?_
        exact zF3 (S' := T (j + 1)) (by simp) zN2 (by rw [(hok _).1, (hok _).1]; exact Nat.le_refl _) hcl ⟨rfl, by rw [hjm, if_pos (by omega)]⟩
  ·
   have hkb : ¬ k < b.length := by rw [zF] at h16; simp at h16; omega
   rw [show i = a.length by omega, show k = b.length by omega, List.drop_length, List.drop_length, both_end] at he
   have hdl := drop_nil_len he
   have hjm : j = m := by omega
   refine zW0 fun hcv hcl => ?_
   refine zM1 ?_
   exact zF3 (S' := T j) (by simp) zN2 (by rw [(hok _).1, (hok _).1]; exact Nat.le_refl _) hcl ⟨rfl, by rw [hjm, if_neg (by omega)]⟩
theorem with_spec (a b : List Bs) (S : MS) : MCalls Tryz.prog 265 [.lst none 1 (a.map encX), .lst none 1 (b.map encX)] S fun v σ' => v = .fn (.func 295) [] [.ref S.length 0, .ref (S.length + 1) 0] ∧ σ' = S ++ [.cells [.lst none 1 (a.map encX)], .cells [.lst none 1 (b.map encX)]] := by
 refine zM Tryz.func265 V Tryz.ntmps265 (zA V) ?_
 refine zB <| qR V <| qB V V V V V <| qB V V V V V <| qA V V V <| qN <| zB <| qR V <| qO V <| zO2 V V V <| qA V V V <| qN ?_
 refine zW0 fun hcv hcl => ?_
 refine zI ?_
 exact ret_tmpT (.inr V) Tryz.results265 V (.refl _) (hcv 4 _ rfl) (by simp) hcl Vv
theorem bothL_cl {t d ty n : Nat} {xs a b : List Bs} {o : MObj} (ht : t < d) (ho : o ∈ [MObj.cells [.lst (some t) 1 (xs.map encX)], .cells [.lst none 1 (a.map encX)], .cells [.lst none 1 (b.map encX)], .row ty 1 n]) : o.cl d := by
 simp only [List.mem_cons, List.not_mem_nil, or_false] at ho
 rcases ho with rfl | rfl | rfl | rfl
 ·intro x hx
  simp at hx
  subst hx
  exact zC6 ht (cl_encX _) encX_one
 ·intro x hx
  simp at hx
  subst hx
  exact cl_texts _ _
 ·intro x hx
  simp at hx
  subst hx
  exact cl_texts _ _
 ·exact trivial
theorem get_b1 {A R : MS} {o a b c a' : MObj} : ((A ++ [o, a, b, c]) ++ R)[(A ++ [a']).length]? = some a := by rw [zG, zN, getElem?_own]; rfl
theorem get_b2 {A R : MS} {o a b c a' : MObj} : ((A ++ [o, a, b, c]) ++ R)[(A ++ [a']).length + 1]? = some b := by rw [zG, zN, Nat.add_assoc, getElem?_own]; rfl
theorem rowsBoth_spec (a b : List Bs) (hab : a.length + b.length ≤ 1000000) (S : MS) : MCalls Tryz.prog 228 [.lst none 1 (a.map encX), .lst none 1 (b.map encX)] S fun v σ' => v = .lst none 1 ((bothX a b).map encX) ∧ σ' = S := by
 refine zM Tryz.func228 V Tryz.ntmps228 (zA V) ?_
 refine zB <| qR V <| qA V V V <| qN <| zB <| qR V <| qO V <| zN0 V zm23 V V <| qN <| zB <| zB <| qR V <| qM V V V <| qM V V V ?_
 refine qX V V V V co265 (with_spec a b _) ?_
 rw [zN S]
 refine qN <| zX <| mwp_cellrow 0 9 1 V (Nat.le_refl _) V V ?_
 refine mwp_rangeB (ok := fun σ => σ.length = S.length + 5 ∧ σ[(S ++ [MObj.cells [.lst0]]).length]? = some (.cells [.lst none 1 (a.map encX)]) ∧ σ[(S ++ [MObj.cells [.lst0]]).length + 1]? = some (.cells [.lst none 1 (b.map encX)])) (ys := (bothX a b).map fun x => [encX x]) .ret (.inl V) (fun j => true) (fun j => ([.cells [.lst (some (S.length + 3)) 1 (((bothX a b).take j).map encX)], .cells [.lst none 1 (a.map encX)], .cells [.lst none 1 (b.map encX)], .row 9 1 ((bothX a b).take j).length] : MS)) (fun j => ([.cells [.lst (some (S.length + 3)) 1 (((bothX a b).take j).map encX)], .cells [.lst none 1 (a.map encX)], .cells [.lst none 1 (b.map encX)], .row 9 1 ((bothX a b).take j).length] : MS)) (fun j => V) (fun j => V) V (fun j o ho n hn => bothL_cl (by simp at hn; omega) ho) (fun j o ho n hn => bothL_cl (by simp at hn; omega) ho) V co295 V (by simp) ((with_iter a b hab _ _ _).weak fun σ h => h.1) (fun j => ⟨by simp only [zG, zF0, List.length_nil], get_b1, get_b2⟩) (fun j s q => ⟨by simp only [zG, zF0, List.length_nil], get_b1, get_b2⟩) V (fun y hy => by obtain ⟨i, _, rfl⟩ := List.mem_map.1 hy; rfl) ?_ ?_ ?_
 ·
  intro j y hy hbef L'
  rw [zH0] at hy
  obtain ⟨x, hp, rfl⟩ := Option.map_eq_some_iff.1 hy
  have hjl := (zD.1 hp).1
  have hbl := both_len a b
  have htl : ((bothX a b).take j).length ≤ 1000000 := by rw [List.length_take]; omega
  refine qR V <| qA V V V <| qN ?_
  refine ⟨rfl, [], by rw [List.append_nil], ?_⟩
  rw [List.append_nil]
  refine zX <| qR V <| qO V <| zV3 V V V ta23 V <| qM V V V <| qO V <| zJ1 V zB0 el9 V V (by decide) (by decide) V V ?_
  refine qO V <| op_append_mid V zB0 el9 V V V (by simp) (by simp only [zF, zF0, List.length_nil]; omega) (by simp only [zF, zF0, List.length_nil]; omega) V ?_
  refine qO V <| zJ3 V V V V sz23 V V (zA V) V <| qN ?_
  exact .inl ⟨rfl, rfl, [], by rw [List.append_nil, List.take_add_one, hp, Option.toList_some, List.map_append, len_snoc]; rfl⟩
 ·
  intro _
  rw [zN S]
  rw [zF]
  refine zB <| qR V <| qL V V V V ta23 V <| qA V V V <| qN <| zI ?_
  exact zR (.inr V) Tryz.results228 V (Sub.trans (.view _ _ _) (.of_eq (by rw [List.take_length]))) (cl_texts _ _) Vv
 ·
  intro j y hy hp
  cases hp
theorem gt_nil {α β : Type} {f : α → β} : intCmp .gtr ((((([] : List α).map f).length : Nat)) : Int) 0 = some false := by simp [intCmp]
theorem gt_cons {α β : Type} {f : α → β} {x : α} {l : List α} : intCmp .gtr (((((x :: l).map f).length : Nat)) : Int) 0 = some true := by simp [intCmp]
theorem eq_nil {α β : Type} {f : α → β} : intCmp .eql ((((([] : List α).map f).length : Nat)) : Int) 0 = some true := by simp [intCmp]
theorem eq_cons {α β : Type} {f : α → β} {x : α} {l : List α} : intCmp .eql (((((x :: l).map f).length : Nat)) : Int) 0 = some false := by simp [intCmp]; omega
theorem set_self_ {S : MS} {id : Nat} {o : MObj} (h : S[id]? = some o) : S.set id o = S := by
 obtain ⟨hlt, e⟩ := zD.1 h
 rw [← e]
 exact List.set_getElem_self hlt
theorem _root_.zX5 : type_of% @set_self_ := @set_self_
theorem get_ne {S : MS} {i k : Nat} {o p : MObj} (hne : i ≠ k) (h : S[k]? = some p) : (S.set i o)[k]? = some p := by
 rw [List.getElem?_set_ne hne]; exact h
theorem _root_.zZ2 : type_of% @get_ne := @get_ne
theorem drop1 {α β : Type} {f : α → β} {x : α} {l : List α} : (((x :: l).map f).drop 1).take (((x :: l).map f).length - 1) = l.map f := by
 rw [List.map_cons, List.drop_succ_cons, List.drop_zero]
 exact List.take_of_length_le (by simp)
theorem get_last2 {A A' J : MS} {c : MObj} (h : A'.length = A.length) : ((A' ++ J) ++ [c])[(A ++ J).length]? = some c := by
 have e : (A ++ J).length = (A' ++ J).length := by simp [h]
 rw [e]
 exact zU4
theorem _root_.zM3 : type_of% @get_last2 := @get_last2
theorem _root_.zM0 : type_of% @Tryz.underlying329 := @Tryz.underlying329
theorem _root_.zF6 : type_of% @Tryz.results303 := @Tryz.results303
theorem cmerged_iter (cmp : List Tk → List Tk → Int) (kc : FuncId) (hcc : CallOk Tryz.prog kc) (hcmp : ∀ (k1 k2 : List Tk) (S : MS), MCalls Tryz.prog kc ([] ++ [encC k1, encC k2] ++ []) S fun v σ' => v = .int .i64 (cmp k1 k2) ∧ σ' = S) (a b : List (REnt (List Tk))) (ida idb idc l0 : Nat) (hab : ida ≠ idb) :
  IterOk2 Tryz.prog 303 [] [.ref ida 0, .ref idb 0, .ref idc 0] ((mergeE cmp a b).map fun e => [encE encC e]) (fun σ => σ.length = l0 ∧ ClS σ) (fun j σ τ => σ[ida]? = some (.cells [.lst none 3 ((restE cmp a b j).1.map (encR encC))]) ∧ σ[idb]? = some (.cells [.lst none 3 ((restE cmp a b j).2.map (encR encC))]) ∧ σ[idc]? = some (.cells [.fn (.func kc) [] []]) ∧ τ = (σ.set ida (.cells [.lst none 3 ((restE cmp a b (j + 1)).1.map (encR encC))])).set idb (.cells [.lst none 3 ((restE cmp a b (j + 1)).2.map (encR encC))])) := by
 refine iterOk2_of fun id T U m hok hoku hm hyt hyf => ?_
 have hml : ((mergeE cmp a b).map fun e => [encE encC e]).length = (mergeE cmp a b).length := zF ..
 refine zM Tryz.func303 V Tryz.ntmps303 (zA V) ?_
 rw [List.append_nil]
 show mwp _ _ _ _ _ _ _ (([] : MS) ++ T 0)
 refine zX ?_
 refine zS1 (α := Nat × MS) [(0, _), (1, _), (2, _), (3, _)] (fun x => []) (fun x => T x.1 ++ x.2) (fun x => x.1 ≤ m ∧ mergeE cmp (restE cmp a b x.1).1 (restE cmp a b x.1).2 = (mergeE cmp a b).drop x.1) (fun x => m + 1 - x.1) (⟨0, []⟩) (.keep V (.keep V (.keep V (.keep V (.nil))))) (.nil) (⟨by simp, rfl⟩) (by rw [List.append_nil]) ?_
 rintro ⟨j, J⟩ ⟨hj, he⟩
 dsimp only at hj he ⊢
 show mwp _ _ _ _ _ _ _ (T j ++ J)
 obtain ⟨hA, hB, hC, hU⟩ := hoku j hj
 obtain ⟨⟨ra, rb⟩, hR⟩ : ∃ p, restE cmp a b j = p := ⟨_, rfl⟩
 rw [restE, hR] at hU
 rw [hR] at hA hB he
 dsimp only at hA hB he
 have hlT : (U j).length = (T j).length := by rw [hU]; simp
 refine zB <| zB ?_
 rcases ra with _ | ⟨x, ra⟩ <;> rcases rb with _ | ⟨y, rb⟩
 ·
  rw [mergeE] at he
  have hdl := drop_nil_len he
  have hjm : j = m := by omega
  refine qR V <| qO V <| zP V V (by first | exact zS (zS hA) | exact zS hA) ta329 V ?_
  refine qE V V zM0 V <| qC V V V V (gt_nil) <| qM V V V <| qO V <| zP V V (by first | exact zS (zS hB) | exact zS hB | exact zS (zS (zZ2 hab hB))) ta329 V ?_
  refine qE V V zM0 V <| qC V V V V (gt_nil) <| qP V V V V <| qN <| zL V (V) <| zM1 ?_
  exact zB2 (S' := T j) (by simp) zF6 (by rw [(hok _).1, (hok _).1]; exact Nat.le_refl _) (hok _).2 ⟨rfl, by rw [hjm, if_neg (by omega)]⟩
 ·
  refine qR V <| qO V <| zP V V (by first | exact zS (zS hA) | exact zS hA) ta329 V ?_
  refine qE V V zM0 V <| qC V V V V (gt_nil) <| qM V V V <| qO V <| zP V V (by first | exact zS (zS hB) | exact zS hB | exact zS (zS (zZ2 hab hB))) ta329 V ?_
  refine qE V V zM0 V <| qC V V V V (gt_cons) <| qP V V V V <| qN <| zT V (V) <| zQ <| zX <| zB <| qR V <| qO V <| zA4 V zm332 <| qN <| zB <| zX <| zB ?_
  refine zX0 [] [_] mo (by decide) V V V V ?_
  refine dO V V V (zP V V (by first | exact zS (zS hB) | exact zS hB | exact zS (zS (zZ2 hab hB))) ta329 V Vv) ?_
  refine dO V V V (zW1 V zM0 V Vv) <| dO V V V (zW2 V V V (eq_cons) Vv) <| dO V V V (zY V V Vv) <| dO V V V (zP V V (by first | exact zS (zS hA) | exact zS hA) ta329 V Vv) ?_
  refine dO V V V (zW1 V zM0 V Vv) <| dO V V V (zW2 V V V (gt_nil) Vv) <| dO V V V (zY V V Vv) <| dS V V <| dS V V <| dS V V <| dS V V <| dS V V <| dS V V <| dS V V <| dS V V <| dS V V <| dS V V <| dS V V <| dO V V V (zO1 V V V Vv) <| dO V V V (zO1 V V V Vv) <| dO V V V (zF1 V V Vv) <| zP0 <| zL V (V) <| zB ?_
  refine zX0 [] [_] mo (by decide) V V V V ?_
  refine dO V V V (zP V V (by first | exact zS (zS hA) | exact zS hA) ta329 V Vv) ?_
  refine dO V V V (zW1 V zM0 V Vv) <| dO V V V (zW2 V V V (eq_nil) Vv) <| dO V V V (zY V V Vv) <| dS V V <| dS V V <| dS V V <| dS V V <| dS V V <| dS V V <| dS V V <| dS V V <| dS V V <| dS V V <| dS V V <| dO V V V (zO1 V V V Vv) <| dO V V V (zF1 V V Vv) <| zP0 <| zT V (V) ?_
  have hst : stepE cmp ([], y :: rb) = ([], rb) := by rw [stepE]
  rw [mergeE] at he
  obtain ⟨hy, hnx⟩ := zT1 he
  replace hy : ((mergeE cmp a b).map fun e => [encE encC e])[j]? = some [encE encC (y.1, y.2, none)] := by rw [zH0, hy]; rfl
  have hjl := (zD.1 hy).1
  have hUB : U j = (T j).set idb (.cells [.lst none 3 (rb.map (encR encC))]) := by rw [hU, hst, zX5 hA]
  refine zX0 [5, 6] [_, (T j ++ J) ++ [.cells [encC y.1, .sptr (encV y.2).cells, .ptr0]], (U j ++ J) ++ [.cells [encC y.1, .sptr (encV y.2).cells, .ptr0]]] mo (by decide) V V V V ?_
  refine dO V V V (zP V V (by first | exact zS (zS hB) | exact zS hB | exact zS (zS (zZ2 hab hB))) ta329 V Vv) ?_
  refine dO V V V (zK V zM0 sz332 (by decide) V V V (show _ = some (encR encC y) from V) Vv) ?_
  refine dO V V V (zO V V ta332 V Vv) <| zU V V (.cons (zP V V (by first | exact zS (zS hB) | exact zS hB | exact zS (zS (zZ2 hab hB))) ta329 V Vv) (.cons (zP V V (by first | exact zS (zS hB) | exact zS hB | exact zS (zS (zZ2 hab hB))) ta329 V Vv) (.nil))) ?_
  refine zU V V (.cons (zL2 V zM0 sz332 V (.some V V) .none (by simp) (by simp) Vv) (.cons (zL2 V zM0 sz332 V (.some V V) .none (by simp) (by simp) Vv) (.nil))) ?_
  rw [drop1]
  refine zB1 V V V V (zD2 V V V sz332 V V (zA V) Vv) <| zB1 V V V V (zX3 V V V (by first | exact hB | exact zZ2 hab hB) sz329 V V (zA V) ⟨rfl, by rw [hUB]; rfl⟩) ?_
  refine zP0 <| zB ?_
  rcases Nat.lt_or_eq_of_le hj with hjm | hjm
  ·
   refine qR V <| qM V V V <| qO V <| zP V V (zM3 hlT) ta332 V <| qO V <| (hyt j _ hjm hy).at2 V V V <| qO V <| zC1 V V <| qN <| zL V (V) <| zQ ?_
   refine ⟨⟨j + 1, J ++ [_]⟩, by dsimp only; omega, ⟨by dsimp only; omega, by dsimp only; rw [restE, hR, hst]; exact hnx⟩, zN .., (.keep V (.keep V (.keep V (.keep V (.nil))))), (.nil)⟩
  ·
   refine qR V <| qM V V V <| qO V <| zP V V (zM3 hlT) ta332 V <| qO V <| (hyf j _ hjm hy).at2 V V V <| qO V <| zC1 V V <| qN <| zT V (V) <| zI ?_
   rw [zN]
   exact zB2 (S' := T (j + 1)) (by simp) zF6 (by rw [(hok _).1, (hok _).1]; exact Nat.le_refl _) (hok _).2 ⟨rfl, by rw [hjm, if_pos (by omega)]⟩
 ·
  refine qR V <| qO V <| zP V V (by first | exact zS (zS hA) | exact zS hA) ta329 V ?_
  refine qE V V zM0 V <| qC V V V V (gt_cons) <| qM V V V <| qS V <| qS V <| qS V <| qP V V V V <| qN <| zT V (V) <| zQ <| zX <| zB <| qR V <| qO V <| zA4 V zm332 <| qN <| zB <| zX <| zB ?_
  refine zX0 [] [_] mo (by decide) V V V V ?_
  refine dO V V V (zP V V (by first | exact zS (zS hB) | exact zS hB | exact zS (zS (zZ2 hab hB))) ta329 V Vv) ?_
  refine dO V V V (zW1 V zM0 V Vv) <| dO V V V (zW2 V V V (eq_nil) Vv) <| dO V V V (zY V V Vv) <| dS V V <| dS V V <| dS V V <| dS V V <| dS V V <| dS V V <| dS V V <| dS V V <| dS V V <| dS V V <| dS V V <| dS V V <| dS V V <| dS V V <| dS V V <| dS V V <| dO V V V (zO1 V V V Vv) <| dO V V V (zF1 V V Vv) <| zP0 <| zT V (V) ?_
  have hst : stepE cmp (x :: ra, []) = (ra, []) := by rw [stepE]
  rw [mergeE] at he
  obtain ⟨hy, hnx⟩ := zT1 he
  replace hy : ((mergeE cmp a b).map fun e => [encE encC e])[j]? = some [encE encC (x.1, x.2, none)] := by rw [zH0, hy]; rfl
  have hjl := (zD.1 hy).1
  have hUA : U j = (T j).set ida (.cells [.lst none 3 (ra.map (encR encC))]) := by rw [hU, hst]; exact zX5 (zZ2 hab hB)
  refine zX0 [5, 6] [_, (T j ++ J) ++ [.cells [encC x.1, .sptr (encV x.2).cells, .ptr0]], (U j ++ J) ++ [.cells [encC x.1, .sptr (encV x.2).cells, .ptr0]]] mo (by decide) V V V V ?_
  refine dO V V V (zP V V (by first | exact zS (zS hA) | exact zS hA) ta329 V Vv) ?_
  refine dO V V V (zK V zM0 sz332 (by decide) V V V (show _ = some (encR encC x) from V) Vv) ?_
  refine dO V V V (zO V V ta332 V Vv) <| zU V V (.cons (zP V V (by first | exact zS (zS hA) | exact zS hA) ta329 V Vv) (.cons (zP V V (by first | exact zS (zS hA) | exact zS hA) ta329 V Vv) (.nil))) ?_
  refine zU V V (.cons (zL2 V zM0 sz332 V (.some V V) .none (by simp) (by simp) Vv) (.cons (zL2 V zM0 sz332 V (.some V V) .none (by simp) (by simp) Vv) (.nil))) ?_
  rw [drop1]
  refine zB1 V V V V (zD2 V V V sz332 V V (zA V) Vv) <| zB1 V V V V (zX3 V V V (hA) sz329 V V (zA V) ⟨rfl, by rw [hUA]; rfl⟩) ?_
  refine zP0 <| zB ?_
  rcases Nat.lt_or_eq_of_le hj with hjm | hjm
  ·
   refine qR V <| qM V V V <| qO V <| zP V V (zM3 hlT) ta332 V <| qO V <| (hyt j _ hjm hy).at2 V V V <| qO V <| zC1 V V <| qN <| zL V (V) <| zQ ?_
   refine ⟨⟨j + 1, J ++ [_]⟩, by dsimp only; omega, ⟨by dsimp only; omega, by dsimp only; rw [restE, hR, hst]; exact hnx⟩, zN .., (.keep V (.keep V (.keep V (.keep V (.nil))))), (.nil)⟩
  ·
   refine qR V <| qM V V V <| qO V <| zP V V (zM3 hlT) ta332 V <| qO V <| (hyf j _ hjm hy).at2 V V V <| qO V <| zC1 V V <| qN <| zT V (V) <| zI ?_
   rw [zN]
   exact zB2 (S' := T (j + 1)) (by simp) zF6 (by rw [(hok _).1, (hok _).1]; exact Nat.le_refl _) (hok _).2 ⟨rfl, by rw [hjm, if_pos (by omega)]⟩
 ·
  refine qR V <| qO V <| zP V V (by first | exact zS (zS hA) | exact zS hA) ta329 V ?_
  refine qE V V zM0 V <| qC V V V V (gt_cons) <| qM V V V <| qS V <| qS V <| qS V <| qP V V V V <| qN <| zT V (V) <| zQ <| zX <| zB <| qR V <| qO V <| zA4 V zm332 <| qN <| zB <| zX <| zB ?_
  refine zX0 [] [_] mo (by decide) V V V V ?_
  refine dO V V V (zP V V (by first | exact zS (zS hB) | exact zS hB | exact zS (zS (zZ2 hab hB))) ta329 V Vv) ?_
  refine dO V V V (zW1 V zM0 V Vv) <| dO V V V (zW2 V V V (eq_cons) Vv) <| dO V V V (zY V V Vv) <| dO V V V (zP V V (by first | exact zS (zS hA) | exact zS hA) ta329 V Vv) ?_
  refine dO V V V (zW1 V zM0 V Vv) <| dO V V V (zW2 V V V (gt_cons) Vv) <| dO V V V (zY V V Vv) ?_
  refine zU V V (.cons (zP V V (zS (zS hC)) ta304 V Vv) .nil) ?_
  refine dO V V V (zP V V (by first | exact zS (zS hA) | exact zS hA) ta329 V Vv) ?_
  refine dO V V V (zK V zM0 sz332 (by decide) V V V (show _ = some (encR encC x) from V) Vv) ?_
  refine dO V V V (zG1 V V zT6 Vv) <| dO V V V (zO V V ta202 V Vv) <| dO V V V (zP V V (by first | exact zS (zS hB) | exact zS hB | exact zS (zS (zZ2 hab hB))) ta329 V Vv) ?_
  refine dO V V V (zK V zM0 sz332 (by decide) V V V (show _ = some (encR encC y) from V) Vv) ?_
  refine dO V V V (zG1 V V zT6 Vv) <| dO V V V (zO V V ta202 V Vv) <| zU V V (.cons (zD1 V V V hcc (hcmp x.1 y.1 _)) .nil) <| dO V V V (zW2 V V V V Vv) <| dO V V V (zO1 V V V Vv) <| dO V V V (zO1 V V V Vv) <| dO V V V (zF1 V V Vv) <| zP0 ?_
  refine zJ V (fun h31 => ?_) (fun h31 => ?_)
  ·
   have hlt : cmp x.1 y.1 < 0 := by simpa using h31
   have hst : stepE cmp (x :: ra, y :: rb) = (ra, y :: rb) := by rw [stepE, if_pos hlt]
   rw [mergeE, if_pos hlt] at he
   obtain ⟨hy, hnx⟩ := zT1 he
   replace hy : ((mergeE cmp a b).map fun e => [encE encC e])[j]? = some [encE encC (x.1, x.2, none)] := by rw [zH0, hy]; rfl
   have hjl := (zD.1 hy).1
   have hUA : U j = (T j).set ida (.cells [.lst none 3 (ra.map (encR encC))]) := by rw [hU, hst]; exact zX5 (zZ2 hab hB)
   refine zX0 [5, 6] [_, (T j ++ J) ++ [.cells [encC x.1, .sptr (encV x.2).cells, .ptr0]], (U j ++ J) ++ [.cells [encC x.1, .sptr (encV x.2).cells, .ptr0]]] mo (by decide) V V V V ?_
   refine dO V V V (zP V V (by first | exact zS (zS hA) | exact zS hA) ta329 V Vv) ?_
   refine dO V V V (zK V zM0 sz332 (by decide) V V V (show _ = some (encR encC x) from V) Vv) ?_
   refine dO V V V (zO V V ta332 V Vv) <| zU V V (.cons (zP V V (by first | exact zS (zS hA) | exact zS hA) ta329 V Vv) (.cons (zP V V (by first | exact zS (zS hA) | exact zS hA) ta329 V Vv) (.nil))) ?_
   refine zU V V (.cons (zL2 V zM0 sz332 V (.some V V) .none (by simp) (by simp) Vv) (.cons (zL2 V zM0 sz332 V (.some V V) .none (by simp) (by simp) Vv) (.nil))) ?_
   rw [drop1]
   refine zB1 V V V V (zD2 V V V sz332 V V (zA V) Vv) <| zB1 V V V V (zX3 V V V (hA) sz329 V V (zA V) ⟨rfl, by rw [hUA]; rfl⟩) ?_
   refine zP0 <| zB ?_
   rcases Nat.lt_or_eq_of_le hj with hjm | hjm
   ·
    refine qR V <| qM V V V <| qO V <| zP V V (zM3 hlT) ta332 V <| qO V <| (hyt j _ hjm hy).at2 V V V <| qO V <| zC1 V V <| qN <| zL V (V) <| zQ ?_
    refine ⟨⟨j + 1, J ++ [_]⟩, by dsimp only; omega, ⟨by dsimp only; omega, by dsimp only; rw [restE, hR, hst]; exact hnx⟩, zN .., (.keep V (.keep V (.keep V (.keep V (.nil))))), (.nil)⟩
   ·
    refine qR V <| qM V V V <| qO V <| zP V V (zM3 hlT) ta332 V <| qO V <| (hyf j _ hjm hy).at2 V V V <| qO V <| zC1 V V <| qN <| zT V (V) <| zI ?_
    rw [zN]
    exact zB2 (S' := T (j + 1)) (by simp) zF6 (by rw [(hok _).1, (hok _).1]; exact Nat.le_refl _) (hok _).2 ⟨rfl, by rw [hjm, if_pos (by omega)]⟩
  ·
   have hlt : ¬ cmp x.1 y.1 < 0 := by simpa using h31
   refine zB ?_
   refine zX0 [] [_] mo (by decide) V V V V ?_
   refine dO V V V (zP V V (by first | exact zS (zS hA) | exact zS hA) ta329 V Vv) ?_
   refine dO V V V (zW1 V zM0 V Vv) <| dO V V V (zW2 V V V (eq_cons) Vv) <| dO V V V (zY V V Vv) ?_
   refine zU V V (.cons (zP V V (zS (zS hC)) ta304 V Vv) .nil) ?_
   refine dO V V V (zP V V (by first | exact zS (zS hB) | exact zS hB | exact zS (zS (zZ2 hab hB))) ta329 V Vv) ?_
   refine dO V V V (zK V zM0 sz332 (by decide) V V V (show _ = some (encR encC y) from V) Vv) ?_
   refine dO V V V (zG1 V V zT6 Vv) <| dO V V V (zO V V ta202 V Vv) <| dO V V V (zP V V (by first | exact zS (zS hA) | exact zS hA) ta329 V Vv) ?_
   refine dO V V V (zK V zM0 sz332 (by decide) V V V (show _ = some (encR encC x) from V) Vv) ?_
   refine dO V V V (zG1 V V zT6 Vv) <| dO V V V (zO V V ta202 V Vv) <| zU V V (.cons (zD1 V V V hcc (hcmp y.1 x.1 _)) .nil) <| dO V V V (zW2 V V V V Vv) <| dO V V V (zO1 V V V Vv) <| dO V V V (zF1 V V Vv) <| zP0 ?_
   refine zJ V (fun h58 => ?_) (fun h58 => ?_)
   ·
    have hgt : cmp y.1 x.1 < 0 := by simpa using h58
    have hst : stepE cmp (x :: ra, y :: rb) = (x :: ra, rb) := by rw [stepE, if_neg hlt, if_pos hgt]
    rw [mergeE, if_neg hlt, if_pos hgt] at he
    obtain ⟨hy, hnx⟩ := zT1 he
    replace hy : ((mergeE cmp a b).map fun e => [encE encC e])[j]? = some [encE encC (y.1, y.2, none)] := by rw [zH0, hy]; rfl
    have hjl := (zD.1 hy).1
    have hUB : U j = (T j).set idb (.cells [.lst none 3 (rb.map (encR encC))]) := by rw [hU, hst, zX5 hA]
    refine zX0 [5, 6] [_, (T j ++ J) ++ [.cells [encC y.1, .sptr (encV y.2).cells, .ptr0]], (U j ++ J) ++ [.cells [encC y.1, .sptr (encV y.2).cells, .ptr0]]] mo (by decide) V V V V ?_
    refine dO V V V (zP V V (by first | exact zS (zS hB) | exact zS hB | exact zS (zS (zZ2 hab hB))) ta329 V Vv) ?_
    refine dO V V V (zK V zM0 sz332 (by decide) V V V (show _ = some (encR encC y) from V) Vv) ?_
    refine dO V V V (zO V V ta332 V Vv) <| zU V V (.cons (zP V V (by first | exact zS (zS hB) | exact zS hB | exact zS (zS (zZ2 hab hB))) ta329 V Vv) (.cons (zP V V (by first | exact zS (zS hB) | exact zS hB | exact zS (zS (zZ2 hab hB))) ta329 V Vv) (.nil))) ?_
    refine zU V V (.cons (zL2 V zM0 sz332 V (.some V V) .none (by simp) (by simp) Vv) (.cons (zL2 V zM0 sz332 V (.some V V) .none (by simp) (by simp) Vv) (.nil))) ?_
    rw [drop1]
    refine zB1 V V V V (zD2 V V V sz332 V V (zA V) Vv) <| zB1 V V V V (zX3 V V V (by first | exact hB | exact zZ2 hab hB) sz329 V V (zA V) ⟨rfl, by rw [hUB]; rfl⟩) ?_
    refine zP0 <| zB ?_
    rcases Nat.lt_or_eq_of_le hj with hjm | hjm
    ·
     refine qR V <| qM V V V <| qO V <| zP V V (zM3 hlT) ta332 V <| qO V <| (hyt j _ hjm hy).at2 V V V <| qO V <| zC1 V V <| qN <| zL V (V) <| zQ ?_
     refine ⟨⟨j + 1, J ++ [_]⟩, by dsimp only; omega, ⟨by dsimp only; omega, by dsimp only; rw [restE, hR, hst]; exact hnx⟩, zN .., (.keep V (.keep V (.keep V (.keep V (.nil))))), (.nil)⟩
    ·
     refine qR V <| qM V V V <| qO V <| zP V V (zM3 hlT) ta332 V <| qO V <| (hyf j _ hjm hy).at2 V V V <| qO V <| zC1 V V <| qN <| zT V (V) <| zI ?_
     rw [zN]
     exact zB2 (S' := T (j + 1)) (by simp) zF6 (by rw [(hok _).1, (hok _).1]; exact Nat.le_refl _) (hok _).2 ⟨rfl, by rw [hjm, if_pos (by omega)]⟩
   ·
    have hgt : ¬ cmp y.1 x.1 < 0 := by simpa using h58
    have hst : stepE cmp (x :: ra, y :: rb) = (ra, rb) := by rw [stepE, if_neg hlt, if_neg hgt]
    rw [mergeE, if_neg hlt, if_neg hgt] at he
    obtain ⟨hy, hnx⟩ := zT1 he
    replace hy : ((mergeE cmp a b).map fun e => [encE encC e])[j]? = some [encE encC (x.1, x.2, some y.2)] := by rw [zH0, hy]; rfl
    have hjl := (zD.1 hy).1
    have hUC : U j = ((T j).set ida (.cells [.lst none 3 (ra.map (encR encC))])).set idb (.cells [.lst none 3 (rb.map (encR encC))]) := by rw [hU, hst]
    refine zX0 [17, 18, 19] [_, (T j ++ J) ++ [.cells [encC x.1, .sptr (encV x.2).cells, .sptr (encV y.2).cells]], ((T j).set ida (.cells [.lst none 3 (ra.map (encR encC))]) ++ J) ++ [.cells [encC x.1, .sptr (encV x.2).cells, .sptr (encV y.2).cells]], (U j ++ J) ++ [.cells [encC x.1, .sptr (encV x.2).cells, .sptr (encV y.2).cells]]] mo (by decide) V V V V ?_
    refine dO V V V (zP V V (by first | exact zS (zS hA) | exact zS hA) ta329 V Vv) ?_
    refine dO V V V (zK V zM0 sz332 (by decide) V V V (show _ = some (encR encC x) from V) Vv) ?_
    refine dO V V V (zG1 V V zT6 Vv) <| dO V V V (zO V V ta202 V Vv) <| dO V V V (zP V V (by first | exact zS (zS hA) | exact zS hA) ta329 V Vv) ?_
    refine dO V V V (zK V zM0 sz332 (by decide) V V V (show _ = some (encR encC x) from V) Vv) ?_
    refine dO V V V (zG1 V V fo332_1 Vv) <| dO V V V (zO V V ta323 V Vv) <| dO V V V (zP V V (by first | exact zS (zS hB) | exact zS hB | exact zS (zS (zZ2 hab hB))) ta329 V Vv) ?_
    refine dO V V V (zK V zM0 sz332 (by decide) V V V (show _ = some (encR encC y) from V) Vv) ?_
    refine dO V V V (zG1 V V fo332_1 Vv) <| dO V V V (zO V V ta323 V Vv) <| dO V V V (zA1 V Tryz.underlying332 zm332 (.cons zT6 sz202 V V (zA V) (.cons fo332_1 sz323 V V (zA V) (.cons fo332_2 sz323 V V (zA V) .nil))) (by kernel_rfl) Vv) ?_
    refine zU V V (.cons (zP V V (by first | exact zS (zS hA) | exact zS hA) ta329 V Vv) (.cons (zP V V (by first | exact zS (zS hA) | exact zS hA) ta329 V Vv) (.nil))) ?_
    refine zU V V (.cons (zL2 V zM0 sz332 V (.some V V) .none (by simp) (by simp) Vv) (.cons (zL2 V zM0 sz332 V (.some V V) .none (by simp) (by simp) Vv) (.nil))) ?_
    rw [drop1]
    refine zU V V (.cons (zP V V (by first | exact zS (zS hB) | exact zS hB | exact zS (zS (zZ2 hab hB))) ta329 V Vv) (.cons (zP V V (by first | exact zS (zS hB) | exact zS hB | exact zS (zS (zZ2 hab hB))) ta329 V Vv) (.cons (zP V V (by first | exact zS (zS hB) | exact zS hB | exact zS (zS (zZ2 hab hB))) ta329 V Vv) (.nil)))) ?_
    refine zU V V (.cons (zL2 V zM0 sz332 V (.some V V) .none (by simp) (by simp) Vv) (.cons (zL2 V zM0 sz332 V (.some V V) .none (by simp) (by simp) Vv) (.cons (zL2 V zM0 sz332 V (.some V V) .none (by simp) (by simp) Vv) (.nil)))) ?_
    rw [drop1]
    refine zB1 V V V V (zD2 V V V sz332 V V (zA V) Vv) <| zB1 V V V V (zX3 V V V (hA) sz329 V V (zA V) Vv) <| zB1 V V V V (zX3 V V V (by first | exact hB | exact zZ2 hab hB) sz329 V V (zA V) ⟨rfl, by rw [hUC]; rfl⟩) ?_
    refine zP0 <| zB ?_
    rcases Nat.lt_or_eq_of_le hj with hjm | hjm
    ·
     refine qR V <| qM V V V <| qO V <| zP V V (zM3 hlT) ta332 V <| qO V <| (hyt j _ hjm hy).at2 V V V <| qO V <| zC1 V V <| qN <| zL V (V) <| zQ ?_
     refine ⟨⟨j + 1, J ++ [_]⟩, by dsimp only; omega, ⟨by dsimp only; omega, by dsimp only; rw [restE, hR, hst]; exact hnx⟩, zN .., (.keep V (.keep V (.keep V (.keep V (.nil))))), (.nil)⟩
    ·
     refine qR V <| qM V V V <| qO V <| zP V V (zM3 hlT) ta332 V <| qO V <| (hyf j _ hjm hy).at2 V V V <| qO V <| zC1 V V <| qN <| zT V (V) <| zI ?_
     rw [zN]
     exact zB2 (S' := T (j + 1)) (by simp) zF6 (by rw [(hok _).1, (hok _).1]; exact Nat.le_refl _) (hok _).2 ⟨rfl, by rw [hjm, if_pos (by omega)]⟩
theorem _root_.zR0 : type_of% @Tryz.underlying320 := @Tryz.underlying320
theorem _root_.zG6 : type_of% @Tryz.results296 := @Tryz.results296
theorem xmerged_iter (cmp : Bs → Bs → Int) (kc : FuncId) (hcc : CallOk Tryz.prog kc) (hcmp : ∀ (k1 k2 : Bs) (S : MS), MCalls Tryz.prog kc ([] ++ [encX k1, encX k2] ++ []) S fun v σ' => v = .int .i64 (cmp k1 k2) ∧ σ' = S) (a b : List (REnt (Bs))) (ida idb idc l0 : Nat) (hab : ida ≠ idb) :
  IterOk2 Tryz.prog 296 [] [.ref ida 0, .ref idb 0, .ref idc 0] ((mergeE cmp a b).map fun e => [encE encX e]) (fun σ => σ.length = l0 ∧ ClS σ) (fun j σ τ => σ[ida]? = some (.cells [.lst none 3 ((restE cmp a b j).1.map (encR encX))]) ∧ σ[idb]? = some (.cells [.lst none 3 ((restE cmp a b j).2.map (encR encX))]) ∧ σ[idc]? = some (.cells [.fn (.func kc) [] []]) ∧ τ = (σ.set ida (.cells [.lst none 3 ((restE cmp a b (j + 1)).1.map (encR encX))])).set idb (.cells [.lst none 3 ((restE cmp a b (j + 1)).2.map (encR encX))])) := by
 refine iterOk2_of fun id T U m hok hoku hm hyt hyf => ?_
 have hml : ((mergeE cmp a b).map fun e => [encE encX e]).length = (mergeE cmp a b).length := zF ..
 refine zM Tryz.func296 V Tryz.ntmps296 (zA V) ?_
 rw [List.append_nil]
 show mwp _ _ _ _ _ _ _ (([] : MS) ++ T 0)
 refine zX ?_
 refine zS1 (α := Nat × MS) [(0, _), (1, _), (2, _), (3, _)] (fun x => []) (fun x => T x.1 ++ x.2) (fun x => x.1 ≤ m ∧ mergeE cmp (restE cmp a b x.1).1 (restE cmp a b x.1).2 = (mergeE cmp a b).drop x.1) (fun x => m + 1 - x.1) (⟨0, []⟩) (.keep V (.keep V (.keep V (.keep V (.nil))))) (.nil) (⟨by simp, rfl⟩) (by rw [List.append_nil]) ?_
 rintro ⟨j, J⟩ ⟨hj, he⟩
 dsimp only at hj he ⊢
 show mwp _ _ _ _ _ _ _ (T j ++ J)
 obtain ⟨hA, hB, hC, hU⟩ := hoku j hj
 obtain ⟨⟨ra, rb⟩, hR⟩ : ∃ p, restE cmp a b j = p := ⟨_, rfl⟩
 rw [restE, hR] at hU
 rw [hR] at hA hB he
 dsimp only at hA hB he
 have hlT : (U j).length = (T j).length := by rw [hU]; simp
 refine zB <| zB ?_
 rcases ra with _ | ⟨x, ra⟩ <;> rcases rb with _ | ⟨y, rb⟩
 ·
  rw [mergeE] at he
  have hdl := drop_nil_len he
  have hjm : j = m := by omega
  refine qR V <| qO V <| zP V V (by first | exact zS (zS hA) | exact zS hA) ta320 V ?_
  refine qE V V zR0 V <| qC V V V V (gt_nil) <| qM V V V <| qO V <| zP V V (by first | exact zS (zS hB) | exact zS hB | exact zS (zS (zZ2 hab hB))) ta320 V ?_
  refine qE V V zR0 V <| qC V V V V (gt_nil) <| qP V V V V <| qN <| zL V (V) <| zM1 ?_
  exact zB2 (S' := T j) (by simp) zG6 (by rw [(hok _).1, (hok _).1]; exact Nat.le_refl _) (hok _).2 ⟨rfl, by rw [hjm, if_neg (by omega)]⟩
 ·
  refine qR V <| qO V <| zP V V (by first | exact zS (zS hA) | exact zS hA) ta320 V ?_
  refine qE V V zR0 V <| qC V V V V (gt_nil) <| qM V V V <| qO V <| zP V V (by first | exact zS (zS hB) | exact zS hB | exact zS (zS (zZ2 hab hB))) ta320 V ?_
  refine qE V V zR0 V <| qC V V V V (gt_cons) <| qP V V V V <| qN <| zT V (V) <| zQ <| zX <| zB <| qR V <| qO V <| zA4 V zm325 <| qN <| zB <| zX <| zB ?_
  refine zX0 [] [_] mo (by decide) V V V V ?_
  refine dO V V V (zP V V (by first | exact zS (zS hB) | exact zS hB | exact zS (zS (zZ2 hab hB))) ta320 V Vv) ?_
  refine dO V V V (zW1 V zR0 V Vv) <| dO V V V (zW2 V V V (eq_cons) Vv) <| dO V V V (zY V V Vv) <| dO V V V (zP V V (by first | exact zS (zS hA) | exact zS hA) ta320 V Vv) ?_
  refine dO V V V (zW1 V zR0 V Vv) <| dO V V V (zW2 V V V (gt_nil) Vv) <| dO V V V (zY V V Vv) <| dS V V <| dS V V <| dS V V <| dS V V <| dS V V <| dS V V <| dS V V <| dS V V <| dS V V <| dS V V <| dS V V <| dO V V V (zO1 V V V Vv) <| dO V V V (zO1 V V V Vv) <| dO V V V (zF1 V V Vv) <| zP0 <| zL V (V) <| zB ?_
  refine zX0 [] [_] mo (by decide) V V V V ?_
  refine dO V V V (zP V V (by first | exact zS (zS hA) | exact zS hA) ta320 V Vv) ?_
  refine dO V V V (zW1 V zR0 V Vv) <| dO V V V (zW2 V V V (eq_nil) Vv) <| dO V V V (zY V V Vv) <| dS V V <| dS V V <| dS V V <| dS V V <| dS V V <| dS V V <| dS V V <| dS V V <| dS V V <| dS V V <| dS V V <| dO V V V (zO1 V V V Vv) <| dO V V V (zF1 V V Vv) <| zP0 <| zT V (V) ?_
  have hst : stepE cmp ([], y :: rb) = ([], rb) := by rw [stepE]
  rw [mergeE] at he
  obtain ⟨hy, hnx⟩ := zT1 he
  replace hy : ((mergeE cmp a b).map fun e => [encE encX e])[j]? = some [encE encX (y.1, y.2, none)] := by rw [zH0, hy]; rfl
  have hjl := (zD.1 hy).1
  have hUB : U j = (T j).set idb (.cells [.lst none 3 (rb.map (encR encX))]) := by rw [hU, hst, zX5 hA]
  refine zX0 [5, 6] [_, (T j ++ J) ++ [.cells [encX y.1, .sptr (encV y.2).cells, .ptr0]], (U j ++ J) ++ [.cells [encX y.1, .sptr (encV y.2).cells, .ptr0]]] mo (by decide) V V V V ?_
  refine dO V V V (zP V V (by first | exact zS (zS hB) | exact zS hB | exact zS (zS (zZ2 hab hB))) ta320 V Vv) ?_
  refine dO V V V (zK V zR0 sz325 (by decide) V V V (show _ = some (encR encX y) from V) Vv) ?_
  refine dO V V V (zO V V ta325 V Vv) <| zU V V (.cons (zP V V (by first | exact zS (zS hB) | exact zS hB | exact zS (zS (zZ2 hab hB))) ta320 V Vv) (.cons (zP V V (by first | exact zS (zS hB) | exact zS hB | exact zS (zS (zZ2 hab hB))) ta320 V Vv) (.nil))) ?_
  refine zU V V (.cons (zL2 V zR0 sz325 V (.some V V) .none (by simp) (by simp) Vv) (.cons (zL2 V zR0 sz325 V (.some V V) .none (by simp) (by simp) Vv) (.nil))) ?_
  rw [drop1]
  refine zB1 V V V V (zD2 V V V sz325 V V (zA V) Vv) <| zB1 V V V V (zX3 V V V (by first | exact hB | exact zZ2 hab hB) sz320 V V (zA V) ⟨rfl, by rw [hUB]; rfl⟩) ?_
  refine zP0 <| zB ?_
  rcases Nat.lt_or_eq_of_le hj with hjm | hjm
  ·
   refine qR V <| qM V V V <| qO V <| zP V V (zM3 hlT) ta325 V <| qO V <| (hyt j _ hjm hy).at2 V V V <| qO V <| zC1 V V <| qN <| zL V (V) <| zQ ?_
   refine ⟨⟨j + 1, J ++ [_]⟩, by dsimp only; omega, ⟨by dsimp only; omega, by dsimp only; rw [restE, hR, hst]; exact hnx⟩, zN .., (.keep V (.keep V (.keep V (.keep V (.nil))))), (.nil)⟩
  ·
   refine qR V <| qM V V V <| qO V <| zP V V (zM3 hlT) ta325 V <| qO V <| (hyf j _ hjm hy).at2 V V V <| qO V <| zC1 V V <| qN <| zT V (V) <| zI ?_
   rw [zN]
   exact zB2 (S' := T (j + 1)) (by simp) zG6 (by rw [(hok _).1, (hok _).1]; exact Nat.le_refl _) (hok _).2 ⟨rfl, by rw [hjm, if_pos (by omega)]⟩
 ·
  refine qR V <| qO V <| zP V V (by first | exact zS (zS hA) | exact zS hA) ta320 V ?_
  refine qE V V zR0 V <| qC V V V V (gt_cons) <| qM V V V <| qS V <| qS V <| qS V <| qP V V V V <| qN <| zT V (V) <| zQ <| zX <| zB <| qR V <| qO V <| zA4 V zm325 <| qN <| zB <| zX <| zB ?_
  refine zX0 [] [_] mo (by decide) V V V V ?_
  refine dO V V V (zP V V (by first | exact zS (zS hB) | exact zS hB | exact zS (zS (zZ2 hab hB))) ta320 V Vv) ?_
  refine dO V V V (zW1 V zR0 V Vv) <| dO V V V (zW2 V V V (eq_nil) Vv) <| dO V V V (zY V V Vv) <| dS V V <| dS V V <| dS V V <| dS V V <| dS V V <| dS V V <| dS V V <| dS V V <| dS V V <| dS V V <| dS V V <| dS V V <| dS V V <| dS V V <| dS V V <| dS V V <| dO V V V (zO1 V V V Vv) <| dO V V V (zF1 V V Vv) <| zP0 <| zT V (V) ?_
  have hst : stepE cmp (x :: ra, []) = (ra, []) := by rw [stepE]
  rw [mergeE] at he
  obtain ⟨hy, hnx⟩ := zT1 he
  replace hy : ((mergeE cmp a b).map fun e => [encE encX e])[j]? = some [encE encX (x.1, x.2, none)] := by rw [zH0, hy]; rfl
  have hjl := (zD.1 hy).1
  have hUA : U j = (T j).set ida (.cells [.lst none 3 (ra.map (encR encX))]) := by rw [hU, hst]; exact zX5 (zZ2 hab hB)
  refine zX0 [5, 6] [_, (T j ++ J) ++ [.cells [encX x.1, .sptr (encV x.2).cells, .ptr0]], (U j ++ J) ++ [.cells [encX x.1, .sptr (encV x.2).cells, .ptr0]]] mo (by decide) V V V V ?_
  refine dO V V V (zP V V (by first | exact zS (zS hA) | exact zS hA) ta320 V Vv) ?_
  refine dO V V V (zK V zR0 sz325 (by decide) V V V (show _ = some (encR encX x) from V) Vv) ?_
  refine dO V V V (zO V V ta325 V Vv) <| zU V V (.cons (zP V V (by first | exact zS (zS hA) | exact zS hA) ta320 V Vv) (.cons (zP V V (by first | exact zS (zS hA) | exact zS hA) ta320 V Vv) (.nil))) ?_
  refine zU V V (.cons (zL2 V zR0 sz325 V (.some V V) .none (by simp) (by simp) Vv) (.cons (zL2 V zR0 sz325 V (.some V V) .none (by simp) (by simp) Vv) (.nil))) ?_
  rw [drop1]
  refine zB1 V V V V (zD2 V V V sz325 V V (zA V) Vv) <| zB1 V V V V (zX3 V V V (hA) sz320 V V (zA V) ⟨rfl, by rw [hUA]; rfl⟩) ?_
  refine zP0 <| zB ?_
  rcases Nat.lt_or_eq_of_le hj with hjm | hjm
  ·
   refine qR V <| qM V V V <| qO V <| zP V V (zM3 hlT) ta325 V <| qO V <| (hyt j _ hjm hy).at2 V V V <| qO V <| zC1 V V <| qN <| zL V (V) <| zQ ?_
   refine ⟨⟨j + 1, J ++ [_]⟩, by dsimp only; omega, ⟨by dsimp only; omega, by dsimp only; rw [restE, hR, hst]; exact hnx⟩, zN .., (.keep V (.keep V (.keep V (.keep V (.nil))))), (.nil)⟩
  ·
   refine qR V <| qM V V V <| qO V <| zP V V (zM3 hlT) ta325 V <| qO V <| (hyf j _ hjm hy).at2 V V V <| qO V <| zC1 V V <| qN <| zT V (V) <| zI ?_
   rw [zN]
   exact zB2 (S' := T (j + 1)) (by simp) zG6 (by rw [(hok _).1, (hok _).1]; exact Nat.le_refl _) (hok _).2 ⟨rfl, by rw [hjm, if_pos (by omega)]⟩
 ·
  refine qR V <| qO V <| zP V V (by first | exact zS (zS hA) | exact zS hA) ta320 V ?_
  refine qE V V zR0 V <| qC V V V V (gt_cons) <| qM V V V <| qS V <| qS V <| qS V <| qP V V V V <| qN <| zT V (V) <| zQ <| zX <| zB <| qR V <| qO V <| zA4 V zm325 <| qN <| zB <| zX <| zB ?_
  refine zX0 [] [_] mo (by decide) V V V V ?_
  refine dO V V V (zP V V (by first | exact zS (zS hB) | exact zS hB | exact zS (zS (zZ2 hab hB))) ta320 V Vv) ?_
  refine dO V V V (zW1 V zR0 V Vv) <| dO V V V (zW2 V V V (eq_cons) Vv) <| dO V V V (zY V V Vv) <| dO V V V (zP V V (by first | exact zS (zS hA) | exact zS hA) ta320 V Vv) ?_
  refine dO V V V (zW1 V zR0 V Vv) <| dO V V V (zW2 V V V (gt_cons) Vv) <| dO V V V (zY V V Vv) ?_
  refine zU V V (.cons (zP V V (zS (zS hC)) ta322 V Vv) .nil) ?_
  refine dO V V V (zP V V (by first | exact zS (zS hA) | exact zS hA) ta320 V Vv) ?_
  refine dO V V V (zK V zR0 sz325 (by decide) V V V (show _ = some (encR encX x) from V) Vv) ?_
  refine dO V V V (zG1 V V fo325_0 Vv) <| dO V V V (zO V V ta9 V Vv) <| dO V V V (zP V V (by first | exact zS (zS hB) | exact zS hB | exact zS (zS (zZ2 hab hB))) ta320 V Vv) ?_
  refine dO V V V (zK V zR0 sz325 (by decide) V V V (show _ = some (encR encX y) from V) Vv) ?_
  refine dO V V V (zG1 V V fo325_0 Vv) <| dO V V V (zO V V ta9 V Vv) <| zU V V (.cons (zD1 V V V hcc (hcmp x.1 y.1 _)) .nil) <| dO V V V (zW2 V V V V Vv) <| dO V V V (zO1 V V V Vv) <| dO V V V (zO1 V V V Vv) <| dO V V V (zF1 V V Vv) <| zP0 ?_
  refine zJ V (fun h31 => ?_) (fun h31 => ?_)
  ·
   have hlt : cmp x.1 y.1 < 0 := by simpa using h31
   have hst : stepE cmp (x :: ra, y :: rb) = (ra, y :: rb) := by rw [stepE, if_pos hlt]
   rw [mergeE, if_pos hlt] at he
   obtain ⟨hy, hnx⟩ := zT1 he
   replace hy : ((mergeE cmp a b).map fun e => [encE encX e])[j]? = some [encE encX (x.1, x.2, none)] := by rw [zH0, hy]; rfl
   have hjl := (zD.1 hy).1
   have hUA : U j = (T j).set ida (.cells [.lst none 3 (ra.map (encR encX))]) := by rw [hU, hst]; exact zX5 (zZ2 hab hB)
   refine zX0 [5, 6] [_, (T j ++ J) ++ [.cells [encX x.1, .sptr (encV x.2).cells, .ptr0]], (U j ++ J) ++ [.cells [encX x.1, .sptr (encV x.2).cells, .ptr0]]] mo (by decide) V V V V ?_
   refine dO V V V (zP V V (by first | exact zS (zS hA) | exact zS hA) ta320 V Vv) ?_
   refine dO V V V (zK V zR0 sz325 (by decide) V V V (show _ = some (encR encX x) from V) Vv) ?_
   refine dO V V V (zO V V ta325 V Vv) <| zU V V (.cons (zP V V (by first | exact zS (zS hA) | exact zS hA) ta320 V Vv) (.cons (zP V V (by first | exact zS (zS hA) | exact zS hA) ta320 V Vv) (.nil))) ?_
   refine zU V V (.cons (zL2 V zR0 sz325 V (.some V V) .none (by simp) (by simp) Vv) (.cons (zL2 V zR0 sz325 V (.some V V) .none (by simp) (by simp) Vv) (.nil))) ?_
   rw [drop1]
   refine zB1 V V V V (zD2 V V V sz325 V V (zA V) Vv) <| zB1 V V V V (zX3 V V V (hA) sz320 V V (zA V) ⟨rfl, by rw [hUA]; rfl⟩) ?_
   refine zP0 <| zB ?_
   rcases Nat.lt_or_eq_of_le hj with hjm | hjm
   ·
    refine qR V <| qM V V V <| qO V <| zP V V (zM3 hlT) ta325 V <| qO V <| (hyt j _ hjm hy).at2 V V V <| qO V <| zC1 V V <| qN <| zL V (V) <| zQ ?_
    refine ⟨⟨j + 1, J ++ [_]⟩, by dsimp only; omega, ⟨by dsimp only; omega, by dsimp only; rw [restE, hR, hst]; exact hnx⟩, zN .., (.keep V (.keep V (.keep V (.keep V (.nil))))), (.nil)⟩
   ·
    refine qR V <| qM V V V <| qO V <| zP V V (zM3 hlT) ta325 V <| qO V <| (hyf j _ hjm hy).at2 V V V <| qO V <| zC1 V V <| qN <| zT V (V) <| zI ?_
    rw [zN]
    exact zB2 (S' := T (j + 1)) (by simp) zG6 (by rw [(hok _).1, (hok _).1]; exact Nat.le_refl _) (hok _).2 ⟨rfl, by rw [hjm, if_pos (by omega)]⟩
  ·
   have hlt : ¬ cmp x.1 y.1 < 0 := by simpa using h31
   refine zB ?_
   refine zX0 [] [_] mo (by decide) V V V V ?_
   refine dO V V V (zP V V (by first | exact zS (zS hA) | exact zS hA) ta320 V Vv) ?_
   refine dO V V V (zW1 V zR0 V Vv) <| dO V V V (zW2 V V V (eq_cons) Vv) <| dO V V V (zY V V Vv) ?_
   refine zU V V (.cons (zP V V (zS (zS hC)) ta322 V Vv) .nil) ?_
   refine dO V V V (zP V V (by first | exact zS (zS hB) | exact zS hB | exact zS (zS (zZ2 hab hB))) ta320 V Vv) ?_
   refine dO V V V (zK V zR0 sz325 (by decide) V V V (show _ = some (encR encX y) from V) Vv) ?_
   refine dO V V V (zG1 V V fo325_0 Vv) <| dO V V V (zO V V ta9 V Vv) <| dO V V V (zP V V (by first | exact zS (zS hA) | exact zS hA) ta320 V Vv) ?_
   refine dO V V V (zK V zR0 sz325 (by decide) V V V (show _ = some (encR encX x) from V) Vv) ?_
   refine dO V V V (zG1 V V fo325_0 Vv) <| dO V V V (zO V V ta9 V Vv) <| zU V V (.cons (zD1 V V V hcc (hcmp y.1 x.1 _)) .nil) <| dO V V V (zW2 V V V V Vv) <| dO V V V (zO1 V V V Vv) <| dO V V V (zF1 V V Vv) <| zP0 ?_
   refine zJ V (fun h58 => ?_) (fun h58 => ?_)
   ·
    have hgt : cmp y.1 x.1 < 0 := by simpa using h58
    have hst : stepE cmp (x :: ra, y :: rb) = (x :: ra, rb) := by rw [stepE, if_neg hlt, if_pos hgt]
    rw [mergeE, if_neg hlt, if_pos hgt] at he
    obtain ⟨hy, hnx⟩ := zT1 he
    replace hy : ((mergeE cmp a b).map fun e => [encE encX e])[j]? = some [encE encX (y.1, y.2, none)] := by rw [zH0, hy]; rfl
    have hjl := (zD.1 hy).1
    have hUB : U j = (T j).set idb (.cells [.lst none 3 (rb.map (encR encX))]) := by rw [hU, hst, zX5 hA]
    refine zX0 [5, 6] [_, (T j ++ J) ++ [.cells [encX y.1, .sptr (encV y.2).cells, .ptr0]], (U j ++ J) ++ [.cells [encX y.1, .sptr (encV y.2).cells, .ptr0]]] mo (by decide) V V V V ?_
    refine dO V V V (zP V V (by first | exact zS (zS hB) | exact zS hB | exact zS (zS (zZ2 hab hB))) ta320 V Vv) ?_
    refine dO V V V (zK V zR0 sz325 (by decide) V V V (show _ = some (encR encX y) from V) Vv) ?_
    refine dO V V V (zO V V ta325 V Vv) <| zU V V (.cons (zP V V (by first | exact zS (zS hB) | exact zS hB | exact zS (zS (zZ2 hab hB))) ta320 V Vv) (.cons (zP V V (by first | exact zS (zS hB) | exact zS hB | exact zS (zS (zZ2 hab hB))) ta320 V Vv) (.nil))) ?_
    refine zU V V (.cons (zL2 V zR0 sz325 V (.some V V) .none (by simp) (by simp) Vv) (.cons (zL2 V zR0 sz325 V (.some V V) .none (by simp) (by simp) Vv) (.nil))) ?_
    rw [drop1]
    refine zB1 V V V V (zD2 V V V sz325 V V (zA V) Vv) <| zB1 V V V V (zX3 V V V (by first | exact hB | exact zZ2 hab hB) sz320 V V (zA V) ⟨rfl, by rw [hUB]; rfl⟩) ?_
    refine zP0 <| zB ?_
    rcases Nat.lt_or_eq_of_le hj with hjm | hjm
    ·
     refine qR V <| qM V V V <| qO V <| zP V V (zM3 hlT) ta325 V <| qO V <| (hyt j _ hjm hy).at2 V V V <| qO V <| zC1 V V <| qN <| zL V (V) <| zQ ?_
     refine ⟨⟨j + 1, J ++ [_]⟩, by dsimp only; omega, ⟨by dsimp only; omega, by dsimp only; rw [restE, hR, hst]; exact hnx⟩, zN .., (.keep V (.keep V (.keep V (.keep V (.nil))))), (.nil)⟩
    ·
     refine qR V <| qM V V V <| qO V <| zP V V (zM3 hlT) ta325 V <| qO V <| (hyf j _ hjm hy).at2 V V V <| qO V <| zC1 V V <| qN <| zT V (V) <| zI ?_
     rw [zN]
     exact zB2 (S' := T (j + 1)) (by simp) zG6 (by rw [(hok _).1, (hok _).1]; exact Nat.le_refl _) (hok _).2 ⟨rfl, by rw [hjm, if_pos (by omega)]⟩
   ·
    have hgt : ¬ cmp y.1 x.1 < 0 := by simpa using h58
    have hst : stepE cmp (x :: ra, y :: rb) = (ra, rb) := by rw [stepE, if_neg hlt, if_neg hgt]
    rw [mergeE, if_neg hlt, if_neg hgt] at he
    obtain ⟨hy, hnx⟩ := zT1 he
    replace hy : ((mergeE cmp a b).map fun e => [encE encX e])[j]? = some [encE encX (x.1, x.2, some y.2)] := by rw [zH0, hy]; rfl
    have hjl := (zD.1 hy).1
    have hUC : U j = ((T j).set ida (.cells [.lst none 3 (ra.map (encR encX))])).set idb (.cells [.lst none 3 (rb.map (encR encX))]) := by rw [hU, hst]
    refine zX0 [17, 18, 19] [_, (T j ++ J) ++ [.cells [encX x.1, .sptr (encV x.2).cells, .sptr (encV y.2).cells]], ((T j).set ida (.cells [.lst none 3 (ra.map (encR encX))]) ++ J) ++ [.cells [encX x.1, .sptr (encV x.2).cells, .sptr (encV y.2).cells]], (U j ++ J) ++ [.cells [encX x.1, .sptr (encV x.2).cells, .sptr (encV y.2).cells]]] mo (by decide) V V V V ?_
    refine dO V V V (zP V V (by first | exact zS (zS hA) | exact zS hA) ta320 V Vv) ?_
    refine dO V V V (zK V zR0 sz325 (by decide) V V V (show _ = some (encR encX x) from V) Vv) ?_
    refine dO V V V (zG1 V V fo325_0 Vv) <| dO V V V (zO V V ta9 V Vv) <| dO V V V (zP V V (by first | exact zS (zS hA) | exact zS hA) ta320 V Vv) ?_
    refine dO V V V (zK V zR0 sz325 (by decide) V V V (show _ = some (encR encX x) from V) Vv) ?_
    refine dO V V V (zG1 V V fo325_1 Vv) <| dO V V V (zO V V ta323 V Vv) <| dO V V V (zP V V (by first | exact zS (zS hB) | exact zS hB | exact zS (zS (zZ2 hab hB))) ta320 V Vv) ?_
    refine dO V V V (zK V zR0 sz325 (by decide) V V V (show _ = some (encR encX y) from V) Vv) ?_
    refine dO V V V (zG1 V V fo325_1 Vv) <| dO V V V (zO V V ta323 V Vv) <| dO V V V (zA1 V Tryz.underlying325 zm325 (.cons fo325_0 sz9 V V (zA V) (.cons fo325_1 sz323 V V (zA V) (.cons fo325_2 sz323 V V (zA V) .nil))) (by kernel_rfl) Vv) ?_
    refine zU V V (.cons (zP V V (by first | exact zS (zS hA) | exact zS hA) ta320 V Vv) (.cons (zP V V (by first | exact zS (zS hA) | exact zS hA) ta320 V Vv) (.nil))) ?_
    refine zU V V (.cons (zL2 V zR0 sz325 V (.some V V) .none (by simp) (by simp) Vv) (.cons (zL2 V zR0 sz325 V (.some V V) .none (by simp) (by simp) Vv) (.nil))) ?_
    rw [drop1]
    refine zU V V (.cons (zP V V (by first | exact zS (zS hB) | exact zS hB | exact zS (zS (zZ2 hab hB))) ta320 V Vv) (.cons (zP V V (by first | exact zS (zS hB) | exact zS hB | exact zS (zS (zZ2 hab hB))) ta320 V Vv) (.cons (zP V V (by first | exact zS (zS hB) | exact zS hB | exact zS (zS (zZ2 hab hB))) ta320 V Vv) (.nil)))) ?_
    refine zU V V (.cons (zL2 V zR0 sz325 V (.some V V) .none (by simp) (by simp) Vv) (.cons (zL2 V zR0 sz325 V (.some V V) .none (by simp) (by simp) Vv) (.cons (zL2 V zR0 sz325 V (.some V V) .none (by simp) (by simp) Vv) (.nil)))) ?_
    rw [drop1]
    refine zB1 V V V V (zD2 V V V sz325 V V (zA V) Vv) <| zB1 V V V V (zX3 V V V (hA) sz320 V V (zA V) Vv) <| zB1 V V V V (zX3 V V V (by first | exact hB | exact zZ2 hab hB) sz320 V V (zA V) ⟨rfl, by rw [hUC]; rfl⟩) ?_
    refine zP0 <| zB ?_
    rcases Nat.lt_or_eq_of_le hj with hjm | hjm
    ·
     refine qR V <| qM V V V <| qO V <| zP V V (zM3 hlT) ta325 V <| qO V <| (hyt j _ hjm hy).at2 V V V <| qO V <| zC1 V V <| qN <| zL V (V) <| zQ ?_
     refine ⟨⟨j + 1, J ++ [_]⟩, by dsimp only; omega, ⟨by dsimp only; omega, by dsimp only; rw [restE, hR, hst]; exact hnx⟩, zN .., (.keep V (.keep V (.keep V (.keep V (.nil))))), (.nil)⟩
    ·
     refine qR V <| qM V V V <| qO V <| zP V V (zM3 hlT) ta325 V <| qO V <| (hyf j _ hjm hy).at2 V V V <| qO V <| zC1 V V <| qN <| zT V (V) <| zI ?_
     rw [zN]
     exact zB2 (S' := T (j + 1)) (by simp) zG6 (by rw [(hok _).1, (hok _).1]; exact Nat.le_refl _) (hok _).2 ⟨rfl, by rw [hjm, if_pos (by omega)]⟩
theorem set4 {S : MS} {i k : Nat} {a b c d : MObj} (h : i ≠ k) : (S.set i c).set k d = (((S.set i a).set k b).set i c).set k d := by
 rw [List.set_comm a b h, List.set_set, List.set_comm b c h.symm, List.set_set]
theorem stJ_cl {cmp : List Tk → List Tk → Int} {a b : List (REnt (List Tk))} {S L : MS} {ida idb j n : Nat} (hcl : ClS (S ++ L)) (hn : (S ++ L).length ≤ n) {o : MObj} (ho : o ∈ (S.set ida (.cells [.lst none 3 ((restE cmp a b j).1.map (encR encC))])).set idb (.cells [.lst none 3 ((restE cmp a b j).2.map (encR encC))])) : o.cl n := by
 have hr : ∀ l : List (REnt (List Tk)), (MObj.cells [.lst none 3 (l.map (encR encC))]).cl n := fun l x hx => by
  simp at hx
  subst hx
  exact zA7 (cl_encR (fun n k => cl_encC n k) _) (fun _ => .inl rfl)
 rcases List.mem_or_eq_of_mem_set ho with ho | rfl
 ·rcases List.mem_or_eq_of_mem_set ho with ho | rfl
  ·obtain ⟨i, hi⟩ := List.getElem?_of_mem ho
   have := hcl i o (zS hi)
   cases o with
   | cells l => exact fun x hx => (this x hx).mono hn
   | loop s p ls => exact fun t x hx => (this t x hx).mono hn
   | row _ _ _ => exact trivial
   | mp _ es => exact fun e he => (this e he).mono hn
   | mit m _ _ _ => exact Nat.lt_of_lt_of_le this hn
   | pin _ _ => exact trivial
   | shut _ _ => exact trivial
   | tcells _ l => exact fun x hx => (this x hx).mono hn
   | orow _ _ _ l => exact fun x hx => (this x hx).mono hn
   | fixed _ _ => exact trivial
   | gone => exact trivial
  ·exact hr _
 ·exact hr _
theorem stJ_ClS {cmp : List Tk → List Tk → Int} {a b : List (REnt (List Tk))} {S : MS} {ida idb j : Nat} (hcl : ClS (S ++ [])) : ClS ((S.set ida (.cells [.lst none 3 ((restE cmp a b j).1.map (encR encC))])).set idb (.cells [.lst none 3 ((restE cmp a b j).2.map (encR encC))])) := fun i o hi => stJ_cl hcl (by simp) (zW hi)
theorem own_cl {A : MS} {t n ty k : Nat} {xs : List (Ent (List Tk))} (hA : ∀ n, t + 1 ≤ n → ∀ o, o ∈ A → o.cl n) (hn : t + 1 ≤ n) {o : MObj} (ho : o ∈ A ++ [.cells [.lst (some t) 3 (xs.map (encE encC))], .row ty 3 k]) : o.cl n := by
 rcases zV2.1 ho with ho | ho
 ·exact hA n hn o ho
 ·simp only [List.mem_cons, List.not_mem_nil, or_false] at ho
  rcases ho with rfl | rfl
  ·intro x hx
   simp at hx
   subst hx
   exact zC6 (by omega) (cl_encE (fun n k => cl_encC n k) _) (fun _ => .inl rfl)
  ·exact trivial
theorem encR_one {κ : Type} (ek : κ → MV) (e : REnt κ) : encR ek e = .agg (encR ek e).cells ∨ [encR ek e] = (encR ek e).cells := .inl rfl
theorem encE_one {κ : Type} (ek : κ → MV) (e : Ent κ) : encE ek e = .agg (encE ek e).cells ∨ [encE ek e] = (encE ek e).cells := .inl rfl
theorem zip_succ {α β : Type} {a : List α} {b : List β} {i : Nat} {x : α} {y : β} (hx : a[i]? = some x) (hy : b[i]? = some y) : (a.zip b).take (i + 1) = (a.zip b).take i ++ [(x, y)] := by
 have h : (a.zip b)[i]? = some (x, y) := List.getElem?_zip_eq_some.2 ⟨hx, hy⟩
 rw [List.take_add_one, h]
 rfl
theorem cmerged_spec (a b : List (REnt (List Tk))) (kc : FuncId) (S : MS) : MCalls Tryz.prog 274 [.lst none 3 (a.map (encR encC)), .lst none 3 (b.map (encR encC)), .fn (.func kc) [] []] S fun v σ' => v = .fn (.func 303) [] [.ref S.length 0, .ref (S.length + 1) 0, .ref (S.length + 2) 0] ∧ σ' = S ++ [.cells [.lst none 3 (a.map (encR encC))], .cells [.lst none 3 (b.map (encR encC))], .cells [.fn (.func kc) [] []]] := by
 refine zM Tryz.func274 V Tryz.ntmps274 (zA V) ?_
 refine zB <| qR V <| qB V V V V V <| qB V V V V V <| qB V V V V V <| qA V V V <| qN <| zB <| qR V <| qO V <| zO2 V V V <| qA V V V <| qN ?_
 refine zW0 fun hcv hcl => ?_
 refine zI ?_
 exact ret_tmpT (.inr V) Tryz.results274 V (.refl _) (hcv 6 _ rfl) (by simp) hcl Vv
theorem crow_spec (keys : List (List Tk)) (vals : List Val) (hkv : keys.length = vals.length) (hk : keys.length ≤ 1000) (S : MS) : MCalls Tryz.prog 275 [.lst none 1 (keys.map encC), .lst none 5 (encVs vals)] S fun v σ' => v = .lst none 3 ((keys.zip vals).map (encR encC)) ∧ σ' = S := by
 refine zM Tryz.func275 V Tryz.ntmps275 (zA V) ?_
 refine zL3 (t := 0) V fun hlen => ?_
 rw [zF] at hlen
 refine zB <| qR V <| qA V V V <| qN <| zB <| qR V <| qA V V V <| qN <| zB <| zB <| qR V <| qM V V V <| qE V V zE0 V <| qM V V V <| qN <| zX <| mwp_row0 5 332 3 V (Nat.le_refl _) V V ?_
 refine zD4 (α := Nat) [(1, _), (8, _), (9, _)] (fun i => [(10, .int .i64 (i : Int)), (5, .lst (some (S.length + 0)) 3 (((keys.zip vals).take i).map (encR encC)))]) (fun i => [.row 332 3 ((keys.zip vals).take i).length]) (fun i => i ≤ keys.length) (fun i => keys.length - i) (0) (Nat.le_refl _) (.keep V (.keep V (.keep V (.nil)))) (.keep V (.keep V (.nil))) (by omega) (V) ?_
 rintro i hi
 have hzl : ((keys.zip vals).take i).length ≤ 1000 := by rw [List.length_take, List.length_zip]; omega
 refine zB <| qR V <| qC V V V V V <| qN <| zB ?_
 refine zJ V (fun h11 => ?_) (fun h11 => ?_)
 ·
  have hlt : i < keys.length := by simpa using h11
  obtain ⟨k, hs⟩ : ∃ q_, keys[i]? = some q_ := ⟨_, zC hlt⟩
  obtain ⟨v, hs2⟩ : ∃ q, vals[i]? = some q := ⟨_, zC (by omega)⟩
  refine zQ <| zB <| zX <| zB <| qR V <| qM V V V <| qO V <| zK V zE0 sz202 (by decide) V V V (zE1 hs) ?_
  refine qO V <| zO V V ta202 V <| qA V V V <| qA V V V <| qN <| qR V <| qM V V V <| qM V V V <| qM V V V <| qM V V V <| qO V <| zK V zI0 sz27 (by decide) V V V (zK4 hs2) ?_
  refine qO V <| zA1 V Tryz.underlying332 zm332 (.cons zT6 sz202 V V (zA V) (.cons fo332_1 sz323 V V (zA V) .nil)) (by kernel_rfl) ?_
  refine qO V <| zJ1 V zM0 el332 V V (by decide) (by decide) V V ?_
  refine qO V <| zN3 V zM0 el332 V V V (by simp) (by simp only [zF, zF0, List.length_nil]; omega) (by simp only [zF, zF0, List.length_nil]; omega) V ?_
  refine qA V V V <| qN <| qR V <| qO V <| zT0 V V V V <| qM V V V <| qN ?_
  refine ⟨i + 1, _, by omega, by omega, by rw [zip_succ hs hs2, zG]; rfl, .new trivial .nil, (.old V V (.old V V (.old V V (.nil)))), (.new' V (zQ1 hlt hlen) (.int _ _) (.new' V (by rw [zip_succ hs hs2, List.map_append]; rfl) (zC6 (by simp) (cl_encR (fun n k => cl_encC n k) _) (encR_one _)) (.nil)))⟩
 ·
  have hge : i = keys.length := by simp at h11; omega
  refine zM1 <| zB <| qR V <| qM V V V <| qA V V V <| qN <| zI ?_
  exact zR (.inr V) Tryz.results275 V (Sub.trans (.view _ _ _) (.of_eq (by rw [hge, List.take_of_length_le (by rw [List.length_zip]; omega)]))) (zA7 (cl_encR (fun n k => cl_encC n k) _) (encR_one _)) Vv
theorem xmerged_spec (a b : List (REnt (Bs))) (kc : FuncId) (S : MS) : MCalls Tryz.prog 266 [.lst none 3 (a.map (encR encX)), .lst none 3 (b.map (encR encX)), .fn (.func kc) [] []] S fun v σ' => v = .fn (.func 296) [] [.ref S.length 0, .ref (S.length + 1) 0, .ref (S.length + 2) 0] ∧ σ' = S ++ [.cells [.lst none 3 (a.map (encR encX))], .cells [.lst none 3 (b.map (encR encX))], .cells [.fn (.func kc) [] []]] := by
 refine zM Tryz.func266 V Tryz.ntmps266 (zA V) ?_
 refine zB <| qR V <| qB V V V V V <| qB V V V V V <| qB V V V V V <| qA V V V <| qN <| zB <| qR V <| qO V <| zO2 V V V <| qA V V V <| qN ?_
 refine zW0 fun hcv hcl => ?_
 refine zI ?_
 exact ret_tmpT (.inr V) Tryz.results266 V (.refl _) (hcv 6 _ rfl) (by simp) hcl Vv
theorem xrow_spec (keys : List (Bs)) (vals : List Val) (hkv : keys.length = vals.length) (hk : keys.length ≤ 1000) (S : MS) : MCalls Tryz.prog 267 [.lst none 1 (keys.map encX), .lst none 5 (encVs vals)] S fun v σ' => v = .lst none 3 ((keys.zip vals).map (encR encX)) ∧ σ' = S := by
 refine zM Tryz.func267 V Tryz.ntmps267 (zA V) ?_
 refine zL3 (t := 0) V fun hlen => ?_
 rw [zF] at hlen
 refine zB <| qR V <| qA V V V <| qN <| zB <| qR V <| qA V V V <| qN <| zB <| zB <| qR V <| qM V V V <| qE V V zB0 V <| qM V V V <| qN <| zX <| mwp_row0 5 325 3 V (Nat.le_refl _) V V ?_
 refine zD4 (α := Nat) [(1, _), (8, _), (9, _)] (fun i => [(10, .int .i64 (i : Int)), (5, .lst (some (S.length + 0)) 3 (((keys.zip vals).take i).map (encR encX)))]) (fun i => [.row 325 3 ((keys.zip vals).take i).length]) (fun i => i ≤ keys.length) (fun i => keys.length - i) (0) (Nat.le_refl _) (.keep V (.keep V (.keep V (.nil)))) (.keep V (.keep V (.nil))) (by omega) (V) ?_
 rintro i hi
 have hzl : ((keys.zip vals).take i).length ≤ 1000 := by rw [List.length_take, List.length_zip]; omega
 refine zB <| qR V <| qC V V V V V <| qN <| zB ?_
 refine zJ V (fun h11 => ?_) (fun h11 => ?_)
 ·
  have hlt : i < keys.length := by simpa using h11
  obtain ⟨k, hs⟩ : ∃ q_, keys[i]? = some q_ := ⟨_, zC hlt⟩
  obtain ⟨v, hs2⟩ : ∃ q, vals[i]? = some q := ⟨_, zC (by omega)⟩
  refine zQ <| zB <| zX <| zB <| qR V <| qM V V V <| qO V <| zK V zB0 sz9 (by decide) V V V (zE1 hs) ?_
  refine qO V <| zO V V ta9 V <| qA V V V <| qA V V V <| qN <| qR V <| qM V V V <| qM V V V <| qM V V V <| qM V V V <| qO V <| zK V zI0 sz27 (by decide) V V V (zK4 hs2) ?_
  refine qO V <| zA1 V Tryz.underlying325 zm325 (.cons fo325_0 sz9 V V (zA V) (.cons fo325_1 sz323 V V (zA V) .nil)) (by kernel_rfl) ?_
  refine qO V <| zJ1 V zR0 el325 V V (by decide) (by decide) V V ?_
  refine qO V <| zN3 V zR0 el325 V V V (by simp) (by simp only [zF, zF0, List.length_nil]; omega) (by simp only [zF, zF0, List.length_nil]; omega) V ?_
  refine qA V V V <| qN <| qR V <| qO V <| zT0 V V V V <| qM V V V <| qN ?_
  refine ⟨i + 1, _, by omega, by omega, by rw [zip_succ hs hs2, zG]; rfl, .new trivial .nil, (.old V V (.old V V (.old V V (.nil)))), (.new' V (zQ1 hlt hlen) (.int _ _) (.new' V (by rw [zip_succ hs hs2, List.map_append]; rfl) (zC6 (by simp) (cl_encR (fun n k => cl_encX n k) _) (encR_one _)) (.nil)))⟩
 ·
  have hge : i = keys.length := by simp at h11; omega
  refine zM1 <| zB <| qR V <| qM V V V <| qA V V V <| qN <| zI ?_
  exact zR (.inr V) Tryz.results267 V (Sub.trans (.view _ _ _) (.of_eq (by rw [hge, List.take_of_length_le (by rw [List.length_zip]; omega)]))) (zA7 (cl_encR (fun n k => cl_encX n k) _) (encR_one _)) Vv
theorem set2_app {A O C : MS} {i k : Nat} {a b a0 b0 : MObj} (hA : A[i]? = some a0) (hB : A[k]? = some b0) (hne : i ≠ k) : ((([] ++ (A ++ O)) ++ C).set i a).set k b = ([] ++ (((A.set i a).set k b) ++ O)) ++ C := by
 rw [List.nil_append, List.nil_append, set_app (zS hA), set_app hA, set_app (zS (zZ2 hne hB)), set_app (zZ2 hne hB)]
theorem get_nil_app {A : MS} {i : Nat} {o : MObj} (h : A[i]? = some o) : (([] : MS) ++ A)[i]? = some o := h
def stJ (cmp : List Tk → List Tk → Int) (a b : List (REnt (List Tk))) (S : MS) (ida idb j : Nat) : MS := (S.set ida (.cells [.lst none 3 ((restE cmp a b j).1.map (encR encC))])).set idb (.cells [.lst none 3 ((restE cmp a b j).2.map (encR encC))])
theorem stJ_len {cmp : List Tk → List Tk → Int} {a b : List (REnt (List Tk))} {S : MS} {ida idb j : Nat} : (stJ cmp a b S ida idb j).length = S.length := by simp [stJ]
theorem _root_.zH6 : type_of% @stJ_len := @stJ_len
theorem cl_entC (n : Nat) (e : Ent (List Tk)) : Cl n (encE encC e) := cl_encE (fun n k => cl_encC n k) n e
theorem appendSeq_spec (a b : List (REnt (List Tk))) (hab : a.length + b.length ≤ 1000) (kc : FuncId) (cmp : List Tk → List Tk → Int) (hcc : CallOk Tryz.prog kc) (hcmp : ∀ (k1 k2 : List Tk) (S : MS), MCalls Tryz.prog kc ([] ++ [encC k1, encC k2] ++ []) S fun v σ' => v = .int .i64 (cmp k1 k2) ∧ σ' = S) (ida idb idc : Nat) (hne : ida ≠ idb) (hnc : ida ≠ idc) (hnd : idb ≠ idc) (S : MS) (hA : S[ida]? = some (.cells [.lst none 3 (a.map (encR encC))])) (hB : S[idb]? = some (.cells [.lst none 3 (b.map (encR encC))])) (hC : S[idc]? = some (.cells [.fn (.func kc) [] []])) : MCalls Tryz.prog 302 [.lst0, .fn (.func 303) [] [.ref ida 0, .ref idb 0, .ref idc 0]] S fun v σ' => v = .lst none 3 ((mergeE cmp a b).map (encE encC)) ∧ σ' = stJ cmp a b S ida idb (mergeE cmp a b).length := by
 refine zM Tryz.func302 V Tryz.ntmps302 (zA V) ?_
 refine zW0 fun _ hcl0 => ?_
 refine zB <| qR V <| qB V V V V V <| qA V V V <| qN <| zB <| zB <| qR V <| qM V V V <| qN <| zX <| mwp_cellrow 0 332 3 V (Nat.le_refl _) V V ?_
 refine zW0 fun _ hcl => ?_
 have hS0 : stJ cmp a b S ida idb 0 = S := by unfold stJ; rw [restE, zX5 hA, zX5 hB]
 have hgA : ∀ j, (stJ cmp a b S ida idb j)[ida]? = some (.cells [.lst none 3 ((restE cmp a b j).1.map (encR encC))]) := fun j => by unfold stJ; exact zZ2 hne.symm (zO4 hA)
 have hgB : ∀ j, (stJ cmp a b S ida idb j)[idb]? = some (.cells [.lst none 3 ((restE cmp a b j).2.map (encR encC))]) := fun j => by unfold stJ; exact zO4 (zZ2 hne hB)
 have hgC : ∀ j, (stJ cmp a b S ida idb j)[idc]? = some (.cells [.fn (.func kc) [] []]) := fun j => by unfold stJ; exact zZ2 hnd (zZ2 hnc hC)
 have hstep : ∀ j, stJ cmp a b S ida idb (j + 1) = ((stJ cmp a b S ida idb j).set ida (.cells [.lst none 3 ((restE cmp a b (j + 1)).1.map (encR encC))])).set idb (.cells [.lst none 3 ((restE cmp a b (j + 1)).2.map (encR encC))]) := fun j => by unfold stJ; exact set4 hne
 have hcS : ∀ j n, S.length + 2 ≤ n → ∀ o, o ∈ stJ cmp a b S ida idb j → o.cl n := fun j n hn o ho => stJ_cl hcl (by simpa using hn) ho
 show mwp _ _ _ _ _ _ _ (([] : MS) ++ _)
 refine mwp_rangeC (L0 := _) .ret (.inl V) (fun j => true) (fun j => (stJ cmp a b S ida idb j ++ [.cells [.lst (some (S.length + 1)) 3 (((mergeE cmp a b).take j).map (encE encC))], .row 332 3 ((mergeE cmp a b).take j).length] : MS)) (fun j => (stJ cmp a b S ida idb (j + 1) ++ [.cells [.lst (some (S.length + 1)) 3 (((mergeE cmp a b).take j).map (encE encC))], .row 332 3 ((mergeE cmp a b).take j).length] : MS)) (fun j => (stJ cmp a b S ida idb j ++ [.cells [.lst (some (S.length + 1)) 3 (((mergeE cmp a b).take j).map (encE encC))], .row 332 3 ((mergeE cmp a b).take j).length] : MS)) (fun j => by simp [zH6]) (fun j => by simp [zH6]) (fun j => by simp [zH6]) (by rw [hS0]; rfl)
  (fun j o ho n hn => own_cl (hcS j) (by simpa [zH6] using hn) ho) (fun j o ho n hn => own_cl (hcS (j + 1)) (by simpa [zH6] using hn) ho) (fun j o ho n hn => own_cl (hcS j) (by simpa [zH6] using hn) ho) rfl co303 rfl (by simp [zH6]) (cmerged_iter cmp kc hcc hcmp a b ida idb idc (S.length + 3) hne) (fun j => by simp [zH6]) (fun j hj => ⟨zS (get_nil_app (zS (hgA j))), zS (get_nil_app (zS (hgB j))), zS (get_nil_app (zS (hgC j))), ?_⟩) (fun j s q => by simp [zH6]) rfl (fun y hy => by obtain ⟨i, _, rfl⟩ := List.mem_map.1 hy; rfl) ?_ ?_ ?_
 ·exact (congrArg (fun x => (([] : MS) ++ (x ++ _)) ++ _) (hstep j)).trans (set2_app (hgA j) (hgB j) hne).symm
 ·
  intro j y hy hbef L'
  rw [zH0] at hy
  obtain ⟨⟨kk, v, o⟩, hp, rfl⟩ := Option.map_eq_some_iff.1 hy
  have htl : ((mergeE cmp a b).take j).length ≤ 1000 := by have := mergeE_len cmp a b; rw [List.length_take]; omega
  have hlj : (stJ cmp a b S ida idb (j + 1)).length = S.length := zH6
  refine qR V <| qO V <| zA4 V zm332 <| qO V <| zD2 V V V sz332 V (by cases o <;> rfl) (zA V) ?_
  refine qN ?_
  refine ⟨rfl, [_], rfl, ?_⟩
  rw [zN ([] ++ _)]
  show mwp _ _ _ _ _ _ _ ((stJ cmp a b S ida idb (j + 1) ++ _) ++ _)
  refine mwp_abs fun R hR => ?_
  refine zX <| qR V <| qO V <| zP V V (get_o0 hlj) ta329 V <| qO V <| zP V V (by rw [hR]; exact get_rt) ta332 V ?_
  refine qO V <| zJ1 V zM0 el332 V V (by decide) (by decide) V (by cases o <;> rfl) ?_
  refine qO V <| op_append V zM0 el332 V V (get_o1 hlj) (by simp) (by simp only [zF, zF0, List.length_nil]; omega) (by simp only [zF, zF0, List.length_nil]; omega) ?_
  refine qO V <| zQ5 V V V (get_o0' hlj) sz329 V V (zA V) <| qN ?_
  exact .inl ⟨rfl, rfl, [_], (set_o01 hlj).trans (by rw [hR, List.take_add_one (l := mergeE cmp a b), hp, Option.toList_some, List.map_append, len_snoc]; exact (zN _ _ _).symm)⟩
 ·
  intro _
  rw [zF]
  refine zB <| qR V <| qO V <| zP V V (get_o0 zH6) ta329 V <| qA V V V <| qN <| zI ?_
  show BodyQ _ _ _ _ _ _ ((stJ cmp a b S ida idb (mergeE cmp a b).length ++ _) ++ _)
  rw [zN]
  exact zG4 (.inr V) Tryz.results302 V (Sub.trans (.view _ _ _) (.of_eq (by rw [List.take_length]))) (zA7 (cl_entC _) (encE_one _)) (by simp [zH6]) (stJ_ClS hcl0) Vv
 ·
  intro j y hy hp
  cases hp
theorem collect_spec (a b : List (REnt (List Tk))) (hab : a.length + b.length ≤ 1000) (kc : FuncId) (cmp : List Tk → List Tk → Int) (hcc : CallOk Tryz.prog kc) (hcmp : ∀ (k1 k2 : List Tk) (S : MS), MCalls Tryz.prog kc ([] ++ [encC k1, encC k2] ++ []) S fun v σ' => v = .int .i64 (cmp k1 k2) ∧ σ' = S) (ida idb idc : Nat) (hne : ida ≠ idb) (hnc : ida ≠ idc) (hnd : idb ≠ idc) (S : MS) (hA : S[ida]? = some (.cells [.lst none 3 (a.map (encR encC))])) (hB : S[idb]? = some (.cells [.lst none 3 (b.map (encR encC))])) (hC : S[idc]? = some (.cells [.fn (.func kc) [] []])) : MCalls Tryz.prog 273 [.fn (.func 303) [] [.ref ida 0, .ref idb 0, .ref idc 0]] S fun v σ' => v = .lst none 3 ((mergeE cmp a b).map (encE encC)) ∧ σ' = stJ cmp a b S ida idb (mergeE cmp a b).length := by
 refine zM Tryz.func273 V Tryz.ntmps273 (zA V) ?_
 refine zW0 fun _ hcl0 => ?_
 rw [List.append_nil]
 rw [List.append_nil] at hcl0
 refine zB <| qR V <| qA V V V <| qN <| zB <| qR V <| qM V V V ?_
 refine qX V V V V co302 (appendSeq_spec a b hab kc cmp hcc hcmp ida idb idc hne hnc hnd S hA hB hC) ?_
 refine qA V V V <| qN <| zI ?_
 exact ret_tmpT (.inr V) Tryz.results273 V (.refl _) (zA7 (cl_entC _) (encE_one _)) (by simp [zH6]) (stJ_ClS (by rw [List.append_nil]; exact hcl0)) Vv
end Go.Proofs.YtciimaabeabkdaaGreatDoor
namespace Go.Proofs.YtciimaabeabkdaaGreatDoor
open Go Go.MV Go.RowKit
section
section
variable {κ : Type}
def ofE (f : Val → Val → Option Val) (e : Ent κ) : Option Val := match e.2.2 with | none => some e.2.1 | some w => f e.2.1 w
def goE (f : Val → Val → Option Val) : List (Ent κ) → Option (List (κ × Val))
 | [] => some []
 | e :: l => match ofE f e with | none => none | some v => (goE f l).map ((e.1, v) :: ·)
theorem goE_append (f : Val → Val → Option Val) : ∀ a b : List (Ent κ), goE f (a ++ b) = (goE f a).bind fun x => (goE f b).map (x ++ ·)
 | [], b => by simp [goE]
 | e :: a, b => by
  rw [List.cons_append, goE, goE, goE_append f a b]
  cases ofE f e with
  | none => rfl
  | some v =>
   cases goE f a with
   | none => rfl
   | some x => cases goE f b <;> simp
theorem goE_len {f : Val → Val → Option Val} : ∀ {a : List (Ent κ)} {x}, goE f a = some x → x.length = a.length
 | [], x, h => by simp [goE] at h; subst h; rfl
 | e :: a, x, h => by
  rw [goE] at h
  cases ho : ofE f e with
  | none => rw [ho] at h; cases h
  | some v =>
   rw [ho] at h
   cases hg : goE f a with
   | none => rw [hg] at h; cases h
   | some y => rw [hg] at h; simp at h; subst h; simp [goE_len hg]
theorem mergeE_mem (cmp : κ → κ → Int) : ∀ (a b : List (REnt κ)) (e : Ent κ), e ∈ mergeE cmp a b → ((e.1, e.2.1) ∈ a ∨ (e.1, e.2.1) ∈ b) ∧ ∀ y, e.2.2 = some y → (e.1, e.2.1) ∈ a ∧ ∃ k, (k, y) ∈ b := by
 intro a b
 induction a, b using mergeE.induct cmp with
 | case1 => intro e h; simp [mergeE] at h
 | case2 x a ih =>
  intro e h
  rw [mergeE, List.mem_cons] at h
  rcases h with rfl | h
  ·exact ⟨.inl (.head _), fun y h => by cases h⟩
  ·obtain ⟨h1, h2⟩ := ih e h
   refine ⟨h1.imp (.tail _) id, fun y hy => ?_⟩
   obtain ⟨p, k, q⟩ := h2 y hy
   exact ⟨.tail _ p, k, q⟩
 | case3 y b ih =>
  intro e h
  rw [mergeE, List.mem_cons] at h
  rcases h with rfl | h
  ·exact ⟨.inr (.head _), fun y h => by cases h⟩
  ·obtain ⟨h1, h2⟩ := ih e h
   refine ⟨h1.imp id (.tail _), fun y hy => ?_⟩
   obtain ⟨p, k, q⟩ := h2 y hy
   exact ⟨p, k, .tail _ q⟩
 | case4 x a y b hlt ih =>
  intro e h
  rw [mergeE, if_pos hlt, List.mem_cons] at h
  rcases h with rfl | h
  ·exact ⟨.inl (.head _), fun y h => by cases h⟩
  ·obtain ⟨h1, h2⟩ := ih e h
   refine ⟨h1.imp (.tail _) id, fun y hy => ?_⟩
   obtain ⟨p, k, q⟩ := h2 y hy
   exact ⟨.tail _ p, k, q⟩
 | case5 x a y b hlt hgt ih =>
  intro e h
  rw [mergeE, if_neg hlt, if_pos hgt, List.mem_cons] at h
  rcases h with rfl | h
  ·exact ⟨.inr (.head _), fun y h => by cases h⟩
  ·obtain ⟨h1, h2⟩ := ih e h
   refine ⟨h1.imp id (.tail _), fun y hy => ?_⟩
   obtain ⟨p, k, q⟩ := h2 y hy
   exact ⟨p, k, .tail _ q⟩
 | case6 x a y b hlt hgt ih =>
  intro e h
  rw [mergeE, if_neg hlt, if_neg hgt, List.mem_cons] at h
  rcases h with rfl | h
  ·exact ⟨.inl (.head _), fun z h => by cases h; exact ⟨.head _, y.1, .head _⟩⟩
  ·obtain ⟨h1, h2⟩ := ih e h
   refine ⟨h1.imp (.tail _) (.tail _), fun y hy => ?_⟩
   obtain ⟨p, k, q⟩ := h2 y hy
   exact ⟨.tail _ p, k, .tail _ q⟩
end
def seenE (l : List (Ent (List Tk))) (e : Ent (List Tk)) : Bool := l.any fun o => decide (cmpF e.1 o.1 = -1)
def entC (v : Val) : List (REnt (List Tk)) := v.cv.zip v.vv
def entX (v : Val) : List (REnt Bs) := v.sv.zip v.vv
def mergedC (a b : Val) : List (Ent (List Tk)) := mergeE byTicksF (entC a) (entC b)
def mergedX (a b : Val) : List (Ent Bs) := mergeE cmpX (entX a) (entX b)
def causesF (f : Val → Val → Option Val) (a b : Val) : Option Val := (goE f ((mergedC a b).filter fun e => !seenE (mergedC a b) e)).map fun l => .mk 0 0 [] (l.map (·.1)) (l.map (·.2))
def mapsF (f : Val → Val → Option Val) (a b : Val) : Option Val := (goE f (mergedX a b)).map fun l => .mk 0 0 (l.map (·.1)) [] (l.map (·.2))
def goP : List (Val → Val → Option Val) → List Val → List Val → Option (List Val)
 | f :: fs, x :: a, y :: b => match f x y with | none => none | some v => (goP fs a b).map (v :: ·)
 | _, _, _ => some []
def pairF2 (fs : List (Val → Val → Option Val)) (a b : Val) : Option Val := (goP fs a.vv b.vv).map fun l => .mk 0 0 [] [] l
def laterC (a b : Val) : Int := if cmpI a.nv b.nv ≠ 0 then cmpI a.nv b.nv else if cmpI a.mv b.mv ≠ 0 then cmpI a.mv b.mv else cmpX (a.sv.headD []) (b.sv.headD [])
def laterF (a b : Val) : Val := if a.sv.length = 0 ∨ (0 < b.sv.length ∧ laterC a b < 0) then b else a
def clocksF (a b : Val) : Val := if a.cv.length = 0 then b else if b.cv.length = 0 then a else .mk 0 0 [] [joinF (a.cv.headD []) (b.cv.headD [])] []
def largeF (v : Val) : Bool := decide (40 < max (max v.sv.length v.cv.length) v.vv.length) || (match v.cv with | [c] => decide (40 < c.length) | _ => false)
def bothB (k : Int) (fs : List (Val → Val → Option Val)) (a b : Val) : Option Val :=
 if k = 1 ∨ k = 2 then some (.mk (max a.nv b.nv) 0 [] [] [])
 else if k = 3 then some (.mk 0 0 (bothX a.sv b.sv) [] [])
 else if k = 4 then mapsF (fs.headD fun _ _ => none) a b
 else if k = 5 then pairF2 fs a b
 else if k = 6 then some (laterF a b)
 else if k = 7 then some (clocksF a b)
 else causesF (fs.headD fun _ _ => none) a b
def capF (o : Option Val) : Option Val := o.bind fun v => if largeF v then none else some v
mutual
def bothF : Sch → Val → Val → Option Val
 | .mk k ins, a, b => capF (bothB k (bothL ins) a b)
def bothL : List Sch → List (Val → Val → Option Val)
 | [] => []
 | s :: l => bothF s :: bothL l
end
theorem bothF_mk (k : Int) (ins : List Sch) (a b : Val) : bothF (.mk k ins) a b = capF (bothB k (bothL ins) a b) := by rw [bothF]
theorem _root_.zH4 : type_of% @bothF_mk := @bothF_mk
theorem bothL_eq : ∀ l : List Sch, bothL l = l.map bothF
 | [] => by simp [bothL]
 | s :: l => by simp [bothL, bothL_eq l]
def encErr (n : Int) : MV := .iface 49 (.int .i64 n)
def errO : Option Val → MV
 | none => encErr 13
 | some _ => .iface0
theorem cl_errO (n : Nat) (o : Option Val) : Cl n (errO o) := by
 cases o
 ·exact .iface _ _ (.int _ _)
 ·exact .iface0
def encO (o : Option Val) : MV := .tup [encV (o.getD noV), errO o]
theorem encO_of (o : Option Val) : ∃ n m s c w, o.getD noV = .mk n m s c w := by
 cases o.getD noV with
 | mk n m s c w => exact ⟨n, m, s, c, w, rfl⟩
def encJ (o : Except Int Val) : MV := .tup [match o with | .error _ => encV noV | .ok v => encV v, match o with | .error n => encErr n | .ok _ => .iface0]
noncomputable def joinVF (s : Sch) (a b : Val) : Except Int Val :=
 if (isF 16 s && isVF s a) = true ∧ (isF 16 s && isVF s b) = true then (match bothF s a b with | some v => .ok v | none => .error 13) else .error 14
end
end Go.Proofs.YtciimaabeabkdaaGreatDoor
