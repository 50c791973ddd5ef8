/-
  Texts on which the proof of OrderTells leans: part 3.
-/
import Derived.Test.YtnfcnpdpfgcchaaGreatDoorOrderTellsB
import Derived.Lib.Bytealg
import Derived.Laws.Externs
set_option linter.unusedVariables false
set_option linter.unusedSimpArgs false
set_option maxRecDepth 20000
set_option maxHeartbeats 8000000
namespace Go.Proofs.YtnfcnpdpfgcchaaGreatDoor
open Go Go.MV
theorem one_of {α : Type} {s : List α} (h : s.length = 1) : ∃ t, s = [t] := by
 match s, h with
 | [t], _ => exact ⟨t, rfl⟩
theorem two_of' {α : Type} {s : List α} (h : s.length = 2) : ∃ t u, s = [t, u] := by
 match s, h with
 | [t, u], _ => exact ⟨t, u, rfl⟩
theorem last_no {n m : Int} {s : List Bs} (h : ¬ s = []) (h1 : ¬ s.length = 1) : isLastF n m s = false := by
 match s, h, h1 with
 | [], h, _ => exact absurd rfl h
 | [t], _, h => exact absurd rfl h
 | _ :: _ :: _, _, _ => rfl
theorem one_ins {k : Int} {ins : List Sch} (h : partsF k = (ins.length : Int)) (hk : partsF k = 1) : ∃ t, ins = [t] := one_of (by omega)
theorem _root_.zT5 : type_of% @one_ins := @one_ins
theorem isB_mk {k : Int} {ins : List Sch} {fs : List (Val → Bool)} {n m : Int} {s : List Bs} {c : List (List Tk)} {w : List Val} : isB k ins fs (.mk n m s c w) = (bareF k (.mk n m s c w) && decide (w.length ≤ 40) && decide (c.length ≤ 40) &&
 (if k = 1 then true else if k = 2 then decide (n ≤ 1) else if k = 3 then isRowF s
  else if k = 4 then isRowF s && decide (s.length = w.length) && w.all (fun x => fs.headD (fun _ => false) x && !noneF (ins.headD default) x)
  else if k = 5 then (match w with | [x, y] => fs.headD (fun _ => false) x && fs.tail.headD (fun _ => false) y | _ => false)
  else if k = 6 then isLastF n m s
  else if k = 7 then (match c with | [] => true | [c] => decide (0 < c.length) && isClockF c | _ => false)
  else decide (c.length = w.length) && isCauseF c && w.all (fs.headD (fun _ => false)))) := rfl
theorem isVF_mk {ins : List Sch} {n m : Int} {s : List Bs} {c : List (List Tk)} {w : List Val} (k : Int) : isVF (.mk k ins) (.mk n m s c w) = (bareF k (.mk n m s c w) && decide (w.length ≤ 40) && decide (c.length ≤ 40) &&
 (if k = 1 then true else if k = 2 then decide (n ≤ 1) else if k = 3 then isRowF s
  else if k = 4 then isRowF s && decide (s.length = w.length) && w.all (fun x => (isVL ins).headD (fun _ => false) x && !noneF (ins.headD default) x)
  else if k = 5 then (match w with | [x, y] => (isVL ins).headD (fun _ => false) x && (isVL ins).tail.headD (fun _ => false) y | _ => false)
  else if k = 6 then isLastF n m s
  else if k = 7 then (match c with | [] => true | [c] => decide (0 < c.length) && isClockF c | _ => false)
  else decide (c.length = w.length) && isCauseF c && w.all ((isVL ins).headD (fun _ => false)))) := by rw [isVF, isB_mk]
theorem _root_.zO1 : type_of% @isVF_mk := @isVF_mk
theorem match2_no {f g : Val → Bool} {w : List Val} : w.length ≠ 2 → (match w with | [x, y] => f x && g y | _ => false) = false := by
 intro h
 match w, h with
 | [], _ => rfl
 | [_], _ => rfl
 | [_, _], h => exact absurd rfl h
 | _ :: _ :: _ :: _, _ => rfl
theorem match1_no {c : List (List Tk)} : ¬ c = [] → c.length ≠ 1 → (match c with | [] => true | [c] => decide (0 < c.length) && isClockF c | _ => false) = false := by
 intro h0 h
 match c, h0, h with
 | [], h, _ => exact absurd rfl h
 | [_], _, h => exact absurd rfl h
 | _ :: _ :: _, _, _ => rfl
theorem k8_of {k : Int} {n : Nat} (h : partsF k = (n : Int)) : k = 1 ∨ k = 2 ∨ k = 3 ∨ k = 4 ∨ k = 5 ∨ k = 6 ∨ k = 7 ∨ k = 8 := by
 unfold partsF at h
 split at h
 ·omega
 ·split at h
  ·omega
  ·split at h <;> omega
theorem short_any (l : List Bs) : (!(l.any fun s => decide (16 < s.length))) = shortF l := by
 unfold shortF
 rw [zF]
 simp
theorem any_all {l : List Val} {f g : Val → Bool} : (!(l.any fun x => !f x || g x)) = l.all fun x => f x && !g x := by
 rw [zF]
 simp
theorem any_all' {l : List Val} {f : Val → Bool} : (!(l.any fun x => !f x)) = l.all f := by
 rw [zF]
 simp
theorem xIndex_spec (S : MS) (l : List Bs) (p : Bs → Bool) (kf : FuncId) (first caps : List MV) (hco : CallOk Tryz.prog kf) (hp : ∀ x ∈ l, ∀ X : MS, MCalls Tryz.prog kf (first ++ [encX x] ++ caps) (S ++ X) fun v σ' => v = .bool (p x) ∧ σ' = S ++ X) : MCalls Tryz.prog 145 [.lst none 1 (l.map encX), .fn (.func kf) first caps] S fun v σ' => v = .int .i64 (findGo p 0 l) ∧ σ' = S := by
 refine zU Tryz.func145 rfl Tryz.ntmps145 (zA rfl) ?_
 refine zN2 (t := 0) rfl fun hlen => ?_
 rw [zC] at hlen
 refine zB <| qR rfl <| qA rfl rfl rfl <| qN <| zB <| zB <| qR rfl <| qM rfl rfl rfl <| qE rfl rfl zX rfl <| qM rfl rfl rfl <| qN <| zB0 ?_
 refine zV1 (α := Nat) [(0, _), (1, _), (7, _)] (fun i => [(8, .int .i64 (i : Int))]) (fun i => []) (fun i => i ≤ l.length ∧ findGo p i (l.drop i) = findGo p 0 l) (fun i => l.length - i) (0) (.keep rfl (.keep rfl (.keep rfl (.nil)))) (.keep rfl (.nil)) (⟨by omega, rfl⟩) (rfl) ?_
 rintro i ⟨hi, he⟩
 refine zB <| qR rfl <| qC rfl rfl rfl rfl rfl <| qN <| zB ?_
 refine zJ rfl (fun h9 => ?_) (fun h9 => ?_)
 ·
  rw [zC] at h9
  have hlt : i < l.length := by simpa using h9
  obtain ⟨x, hs⟩ : ∃ x, l[i]? = some x := ⟨_, zD hlt⟩
  refine zA0 <| zB <| zB0 <| zB <| qR rfl <| qM rfl rfl rfl <| qA rfl rfl rfl <| qN <| zB <| qR rfl <| qM rfl rfl rfl <| qM rfl rfl rfl <| qM rfl rfl rfl <| qO rfl <| zG rfl zX sz9 (by decide) rfl rfl rfl (zV0 hs) ?_
  refine qO rfl <| zH rfl rfl ta9 rfl ?_
  refine zL4 rfl (zH1 rfl rfl rfl hco ((hp _ (zF0 hs) _).mono ?_))
  rintro _ _ ⟨rfl, rfl⟩
  refine qN ?_
  refine zJ rfl (fun h16 => ?_) (fun h16 => ?_)
  ·
   refine zB <| qR rfl <| qM rfl rfl rfl <| qA rfl rfl rfl <| qN <| zK ?_
   exact zQ (.inr rfl) Tryz.results145 rfl (.of_eq (by rw [← he, find_at hs, h16]; rfl)) (.int _ _) ⟨rfl, rfl⟩
  ·
   refine zA0 <| qR rfl <| qO rfl <| zY0 rfl rfl rfl rfl <| qM rfl rfl rfl <| qN ?_
   refine ⟨i + 1, by omega, ⟨by omega, by rw [← he, find_at hs, h16]; rfl⟩, rfl, (.keep rfl (.keep rfl (.keep rfl (.nil)))), (.eq rfl (zM1 hlt hlen) (.nil))⟩
 ·
  rw [zC] at h9
  have hge : i = l.length := by simp at h9; omega
  refine zN1 <| zB <| qR rfl <| qA rfl rfl rfl <| qN <| zK ?_
  exact zQ (.inr rfl) Tryz.results145 rfl (.of_eq (by rw [← he, hge, List.drop_length]; rfl)) (.int _ _) ⟨rfl, rfl⟩
theorem xContains_spec (S : MS) (l : List Bs) (p : Bs → Bool) (kf : FuncId) (first caps : List MV) (hco : CallOk Tryz.prog kf) (hp : ∀ x ∈ l, ∀ X : MS, MCalls Tryz.prog kf (first ++ [encX x] ++ caps) (S ++ X) fun v σ' => v = .bool (p x) ∧ σ' = S ++ X) : MCalls Tryz.prog 125 [.lst none 1 (l.map encX), .fn (.func kf) first caps] S fun v σ' => v = .bool (l.any p) ∧ σ' = S := by
 refine zU Tryz.func125 rfl Tryz.ntmps125 (zA rfl) ?_
 refine zB <| qR rfl <| qA rfl rfl rfl <| qN <| zB <| qR rfl <| qM rfl rfl rfl <| qM rfl rfl rfl ?_
 refine qX rfl rfl rfl rfl co145 (xIndex_spec (S ++ []) l p kf first caps hco (by rw [List.append_nil]; exact hp)) ?_
 refine qC rfl rfl rfl rfl rfl <| qA rfl rfl rfl <| qN <| zK ?_
 exact zQ (.inr rfl) Tryz.results125 rfl (.of_eq (by rw [find_any p 0 l])) (.bool _) ⟨rfl, rfl⟩
theorem vIndex_spec (S : MS) (l : List Val) (p : Val → Bool) (kf : FuncId) (first caps : List MV) (hco : CallOk Tryz.prog kf) (hp : ∀ x ∈ l, ∀ X : MS, MCalls Tryz.prog kf (first ++ [encV x] ++ caps) (S ++ X) fun v σ' => v = .bool (p x) ∧ σ' = S ++ X) : MCalls Tryz.prog 127 [.lst none 5 (encVs l), .fn (.func kf) first caps] S fun v σ' => v = .int .i64 (findGo p 0 l) ∧ σ' = S := by
 refine zU Tryz.func127 rfl Tryz.ntmps127 (zA rfl) ?_
 refine zN2 (t := 0) rfl fun hlen => ?_
 rw [zR] at hlen
 refine zB <| qR rfl <| qA rfl rfl rfl <| qN <| zB <| zB <| qR rfl <| qM rfl rfl rfl <| qE rfl rfl zO rfl <| qM rfl rfl rfl <| qN <| zB0 ?_
 refine zV1 (α := Nat) [(0, _), (1, _), (7, _)] (fun i => [(8, .int .i64 (i : Int))]) (fun i => []) (fun i => i ≤ l.length ∧ findGo p i (l.drop i) = findGo p 0 l) (fun i => l.length - i) (0) (.keep rfl (.keep rfl (.keep rfl (.nil)))) (.keep rfl (.nil)) (⟨by omega, rfl⟩) (rfl) ?_
 rintro i ⟨hi, he⟩
 refine zB <| qR rfl <| qC rfl rfl rfl rfl rfl <| qN <| zB ?_
 refine zJ rfl (fun h9 => ?_) (fun h9 => ?_)
 ·
  rw [zR] at h9
  have hlt : i < l.length := by simpa using h9
  obtain ⟨x, hs⟩ : ∃ x, l[i]? = some x := ⟨_, zD hlt⟩
  obtain ⟨n1, m1, s1, c1, w1⟩ := x
  refine zA0 <| zB <| zB0 <| zB <| qR rfl <| qM rfl rfl rfl <| qA rfl rfl rfl <| qN <| zB <| qR rfl <| qM rfl rfl rfl <| qM rfl rfl rfl <| qM rfl rfl rfl <| qO rfl <| zG rfl zO sz30 (by decide) rfl rfl rfl (zZ1 hs) ?_
  refine qO rfl <| zH rfl rfl ta30 rfl ?_
  refine zL4 rfl (zH1 rfl rfl rfl hco ((hp _ (zF0 hs) _).mono ?_))
  rintro _ _ ⟨rfl, rfl⟩
  refine qN ?_
  refine zJ rfl (fun h16 => ?_) (fun h16 => ?_)
  ·
   refine zB <| qR rfl <| qM rfl rfl rfl <| qA rfl rfl rfl <| qN <| zK ?_
   exact zQ (.inr rfl) Tryz.results127 rfl (.of_eq (by rw [← he, find_at hs, h16]; rfl)) (.int _ _) ⟨rfl, rfl⟩
  ·
   refine zA0 <| qR rfl <| qO rfl <| zY0 rfl rfl rfl rfl <| qM rfl rfl rfl <| qN ?_
   refine ⟨i + 1, by omega, ⟨by omega, by rw [← he, find_at hs, h16]; rfl⟩, rfl, (.keep rfl (.keep rfl (.keep rfl (.nil)))), (.eq rfl (zM1 hlt hlen) (.nil))⟩
 ·
  rw [zR] at h9
  have hge : i = l.length := by simp at h9; omega
  refine zN1 <| zB <| qR rfl <| qA rfl rfl rfl <| qN <| zK ?_
  exact zQ (.inr rfl) Tryz.results127 rfl (.of_eq (by rw [← he, hge, List.drop_length]; rfl)) (.int _ _) ⟨rfl, rfl⟩
theorem vContains_spec (S : MS) (l : List Val) (p : Val → Bool) (kf : FuncId) (first caps : List MV) (hco : CallOk Tryz.prog kf) (hp : ∀ x ∈ l, ∀ X : MS, MCalls Tryz.prog kf (first ++ [encV x] ++ caps) (S ++ X) fun v σ' => v = .bool (p x) ∧ σ' = S ++ X) : MCalls Tryz.prog 84 [.lst none 5 (encVs l), .fn (.func kf) first caps] S fun v σ' => v = .bool (l.any p) ∧ σ' = S := by
 refine zU Tryz.func84 rfl Tryz.ntmps84 (zA rfl) ?_
 refine zB <| qR rfl <| qA rfl rfl rfl <| qN <| zB <| qR rfl <| qM rfl rfl rfl <| qM rfl rfl rfl ?_
 refine qX rfl rfl rfl rfl co127 (vIndex_spec (S ++ []) l p kf first caps hco (by rw [List.append_nil]; exact hp)) ?_
 refine qC rfl rfl rfl rfl rfl <| qA rfl rfl rfl <| qN <| zK ?_
 exact zQ (.inr rfl) Tryz.results84 rfl (.of_eq (by rw [find_any p 0 l])) (.bool _) ⟨rfl, rfl⟩
theorem isRow1_spec (s : Bs) (S : MS) : MCalls Tryz.prog 126 [.str (bs s)] S fun v σ' => v = .bool (decide (16 < s.length)) ∧ σ' = S := by
 refine zU Tryz.func126 rfl Tryz.ntmps126 (zA rfl) ?_
 refine zB <| qR rfl <| qA rfl rfl rfl <| qN <| zB <| qR rfl <| qM rfl rfl rfl <| qO rfl <| op_len_bs rfl Tryz.underlying9 rfl <| qC rfl rfl rfl rfl rfl <| qA rfl rfl rfl <| qN <| zK ?_
 exact zQ (.inr rfl) Tryz.results126 rfl (.of_eq (by congr 1; rw [zF]; simp; omega)) (.bool _) ⟨rfl, rfl⟩
theorem isRow_spec (l : List Bs) (S : MS) : MCalls Tryz.prog 83 [.lst none 1 (l.map encX)] S fun v σ' => v = .bool (isRowF l) ∧ σ' = S := by
 refine zU Tryz.func83 rfl Tryz.ntmps83 (zA rfl) ?_
 refine zB <| qR rfl <| qA rfl rfl rfl <| qN <| zB <| qR rfl <| qM rfl rfl rfl <| qE rfl rfl zX rfl <| qC rfl rfl rfl rfl rfl <| qM rfl rfl rfl ?_
 refine zG0 (fun h6 => ?_) (fun h6 => ?_)
 ·
  refine qM rfl rfl rfl ?_
  refine qX rfl rfl rfl rfl co124 (rowsIs_spec l _) ?_
  refine qP rfl rfl rfl rfl <| qM rfl rfl rfl ?_
  refine zG0 (fun h10 => ?_) (fun h10 => ?_)
  ·
   refine qM rfl rfl rfl ?_
   refine qX rfl rfl rfl rfl co125 (xContains_spec _ l (fun s => decide (16 < s.length)) _ [] [] co126 (fun x _ X => isRow1_spec x _)) ?_
   refine qO rfl <| zG1 rfl rfl <| qP rfl rfl rfl rfl <| qA rfl rfl rfl <| qN <| zK ?_
   exact zQ (.inr rfl) Tryz.results83 rfl (.of_eq (by congr 1; unfold isRowF; rw [← short_any, zF]; simp_all <;> omega)) (.bool _) ⟨rfl, rfl⟩
  ·
   refine qS rfl <| qS rfl <| qS rfl <| qP rfl rfl rfl rfl <| qA rfl rfl rfl <| qN <| zK ?_
   exact zQ (.inr rfl) Tryz.results83 rfl (.of_eq (by congr 1; unfold isRowF; rw [← short_any, zF]; simp_all <;> omega)) (.bool _) ⟨rfl, rfl⟩
 ·
  refine qS rfl <| qS rfl <| qP rfl rfl rfl rfl <| qM rfl rfl rfl <| qS rfl <| qS rfl <| qS rfl <| qP rfl rfl rfl rfl <| qA rfl rfl rfl <| qN <| zK ?_
  exact zQ (.inr rfl) Tryz.results83 rfl (.of_eq (by congr 1; unfold isRowF; rw [← short_any, zF]; simp_all <;> omega)) (.bool _) ⟨rfl, rfl⟩
theorem _root_.zI5 : type_of% @Tryz.results87 := @Tryz.results87
theorem isLast_spec (n m : Int) (s : List Bs) (c : List (List Tk)) (w : List Val) (hn : 0 ≤ n) (hm : 0 ≤ m) (S : MS) : MCalls Tryz.prog 87 [encV (.mk n m s c w)] S fun v σ' => v = .bool (isLastF n m s) ∧ σ' = S := by
 refine zU Tryz.func87 rfl Tryz.ntmps87 (zA rfl) ?_
 refine zB <| qR rfl <| qB rfl rfl rfl rfl rfl <| qA rfl rfl rfl <| qN <| zB <| zB <| qR rfl <| qF rfl rfl rfl zR1 <| qL rfl rfl rfl rfl ta26 rfl <| qE rfl rfl zX rfl <| qC rfl rfl rfl rfl rfl <| qN ?_
 refine zJ rfl (fun h6 => ?_) (fun h6 => ?_)
 ·
  have hs0 : s = [] := by simpa using h6
  subst hs0
  refine zB <| qR rfl <| qF rfl rfl rfl zB3 <| qL rfl rfl rfl rfl ta25 rfl <| qC rfl rfl rfl rfl rfl <| qM rfl rfl rfl ?_
  refine zG0 (fun h10 => ?_) (fun h10 => ?_)
  ·
   refine qF rfl rfl rfl zQ4 <| qL rfl rfl rfl rfl ta25 rfl <| qC rfl rfl rfl rfl rfl <| qP rfl rfl rfl rfl <| qA rfl rfl rfl <| qN <| zK ?_
   exact zQ (.inr rfl) zI5 rfl (.of_eq (by first | (rw [hF]; done) | (congr 1; rw [zF]; simp_all [isLastF]; done) | (congr 1; rw [zF]; simp_all [isLastF]; omega))) (.bool _) ⟨rfl, rfl⟩
  ·
   refine qS rfl <| qS rfl <| qS rfl <| qP rfl rfl rfl rfl <| qA rfl rfl rfl <| qN <| zK ?_
   exact zQ (.inr rfl) zI5 rfl (.of_eq (by first | (rw [hF]; done) | (congr 1; rw [zF]; simp_all [isLastF]; done) | (congr 1; rw [zF]; simp_all [isLastF]; omega))) (.bool _) ⟨rfl, rfl⟩
 ·
  have hs0 : ¬ s = [] := by simpa using h6
  refine zA0 <| zB <| qR rfl <| qF rfl rfl rfl zR1 <| qL rfl rfl rfl rfl ta26 rfl <| qE rfl rfl zX rfl <| qC rfl rfl rfl rfl rfl <| qM rfl rfl rfl ?_
  refine zG0 (fun h19 => ?_) (fun h19 => ?_)
  ·
   obtain ⟨t, rfl⟩ := one_of (by rw [zC] at h19; simp at h19; omega : s.length = 1)
   refine qF rfl rfl rfl zR1 <| qL rfl rfl rfl rfl ta26 rfl <| qO rfl <| zG rfl zX sz9 (by decide) rfl rfl rfl (show _ = some (encX t) from rfl) ?_
   refine qO rfl <| zH rfl rfl ta9 rfl <| qO rfl <| op_len_bs rfl Tryz.underlying9 rfl <| qC rfl rfl rfl rfl rfl <| qP rfl rfl rfl rfl <| qM rfl rfl rfl ?_
   refine zG0 (fun h27 => ?_) (fun h27 => ?_)
   ·
    have h27n : t.length ≤ 16 := by simp at h27; omega
    refine qF rfl rfl rfl zB3 <| qL rfl rfl rfl rfl ta25 rfl <| qC rfl rfl rfl rfl rfl <| qM rfl rfl rfl ?_
    refine zG0 (fun h31 => ?_) (fun h31 => ?_)
    ·
     refine qS rfl <| qS rfl <| qS rfl <| qP rfl rfl rfl rfl <| qM rfl rfl rfl <| qT rfl rfl rfl rfl <| qS rfl <| qP rfl rfl rfl rfl <| qP rfl rfl rfl rfl <| qA rfl rfl rfl <| qN <| zK ?_
     exact zQ (.inr rfl) zI5 rfl (.of_eq (by first | (rw [hF]; done) | (congr 1; rw [zF]; simp_all [isLastF]; done) | (congr 1; rw [zF]; simp_all [isLastF]; omega))) (.bool _) ⟨rfl, rfl⟩
    ·
     have hn0 : n = 0 := by simp at h31; omega
     subst hn0
     refine qF rfl rfl rfl zQ4 <| qL rfl rfl rfl rfl ta25 rfl <| qC rfl rfl rfl rfl rfl <| qP rfl rfl rfl rfl <| qM rfl rfl rfl ?_
     refine zG0 (fun h36 => ?_) (fun h36 => ?_)
     ·
      refine qT rfl rfl rfl rfl <| qS rfl <| qP rfl rfl rfl rfl <| qP rfl rfl rfl rfl <| qA rfl rfl rfl <| qN <| zK ?_
      exact zQ (.inr rfl) zI5 rfl (.of_eq (by first | (rw [hF]; done) | (congr 1; rw [zF]; simp_all [isLastF]; done) | (congr 1; rw [zF]; simp_all [isLastF]; omega))) (.bool _) ⟨rfl, rfl⟩
     ·
      have hm0 : m = 0 := by simp at h36; omega
      subst hm0
      refine qF rfl rfl rfl zR1 <| qL rfl rfl rfl rfl ta26 rfl <| qO rfl <| zG rfl zX sz9 (by decide) rfl rfl rfl (show _ = some (encX t) from rfl) ?_
      refine qO rfl <| zH rfl rfl ta9 rfl <| qO rfl <| zG3 rfl rfl rfl rfl <| qP rfl rfl rfl rfl <| qP rfl rfl rfl rfl <| qA rfl rfl rfl <| qN <| zK ?_
      exact zQ (.inr rfl) zI5 rfl (.of_eq (by first | (rw [hF]; done) | (congr 1; rw [zF]; simp_all [isLastF]; done) | (congr 1; rw [zF]; simp_all [isLastF]; omega))) (.bool _) ⟨rfl, rfl⟩
   ·
    refine qT rfl rfl rfl rfl <| qT rfl rfl rfl rfl <| qT rfl rfl rfl rfl <| qS rfl <| qS rfl <| qS rfl <| qP rfl rfl rfl rfl <| qA rfl rfl rfl <| qN <| zK ?_
    exact zQ (.inr rfl) zI5 rfl (.of_eq (by first | (rw [hF]; done) | (congr 1; rw [zF]; simp_all [isLastF]; done) | (congr 1; rw [zF]; simp_all [isLastF]; omega))) (.bool _) ⟨rfl, rfl⟩
  ·
   have hF : isLastF n m s = false := last_no hs0 (fun e => by rw [zC, e] at h19; simp at h19)
   refine qT rfl rfl rfl rfl <| qS rfl <| qS rfl <| qP rfl rfl rfl rfl <| qM rfl rfl rfl <| qT rfl rfl rfl rfl <| qT rfl rfl rfl rfl <| qT rfl rfl rfl rfl <| qS rfl <| qS rfl <| qS rfl <| qP rfl rfl rfl rfl <| qA rfl rfl rfl <| qN ?_
   refine zK ?_
   exact zQ (.inr rfl) zI5 rfl (.of_eq (by first | (rw [hF]; done) | (congr 1; rw [zF]; simp_all [isLastF]; done) | (congr 1; rw [zF]; simp_all [isLastF]; omega))) (.bool _) ⟨rfl, rfl⟩
theorem _root_.zL5 : type_of% @Tryz.ntmps81 := @Tryz.ntmps81
theorem _root_.zK1 : type_of% @Tryz.results81 := @Tryz.results81
theorem bare_spec (k : Int) (hk : k = 1 ∨ k = 2 ∨ k = 3 ∨ k = 4 ∨ k = 5 ∨ k = 6 ∨ k = 7 ∨ k = 8) (n m : Int) (s : List Bs) (c : List (List Tk)) (w : List Val) (S : MS) : MCalls Tryz.prog 81 [.int .i64 k, encV (.mk n m s c w)] S fun v σ' => v = .bool (bareF k (.mk n m s c w)) ∧ σ' = S := by
 rcases hk with rfl | rfl | rfl | rfl | rfl | rfl | rfl | rfl
 ·
  refine zU zE5 rfl zL5 (zA rfl) ?_
  refine zB <| qR rfl <| qB rfl rfl rfl rfl rfl <| qA rfl rfl rfl <| qN <| zB <| qR rfl <| qM rfl rfl rfl <| qC rfl rfl rfl rfl rfl <| qM rfl rfl rfl <| qS rfl <| qS rfl <| qP rfl rfl rfl rfl <| qM rfl rfl rfl <| qS rfl <| qS rfl <| qP rfl rfl rfl rfl <| qA rfl rfl rfl <| qN <| zB <| qR rfl ?_
  refine qM rfl rfl rfl <| qC rfl rfl rfl rfl rfl <| qM rfl rfl rfl <| qM rfl rfl rfl <| qC rfl rfl rfl rfl rfl <| qP rfl rfl rfl rfl <| qM rfl rfl rfl <| qM rfl rfl rfl <| qC rfl rfl rfl rfl rfl <| qP rfl rfl rfl rfl <| qA rfl rfl rfl <| qN <| zB <| qR rfl <| qM rfl rfl rfl <| qC rfl rfl rfl rfl rfl <| qM rfl rfl rfl ?_
  refine qM rfl rfl rfl <| qC rfl rfl rfl rfl rfl <| qP rfl rfl rfl rfl <| qA rfl rfl rfl <| qN <| zB <| qR rfl <| qM rfl rfl rfl <| qC rfl rfl rfl rfl rfl <| qM rfl rfl rfl <| qM rfl rfl rfl <| qC rfl rfl rfl rfl rfl <| qP rfl rfl rfl rfl <| qM rfl rfl rfl <| qM rfl rfl rfl <| qC rfl rfl rfl rfl rfl <| qP rfl rfl rfl rfl ?_
  refine qA rfl rfl rfl <| qN <| zB <| qR rfl <| qM rfl rfl rfl <| qM rfl rfl rfl <| qS rfl <| qS rfl <| qS rfl <| qP rfl rfl rfl rfl <| qM rfl rfl rfl <| qM rfl rfl rfl <| qC rfl rfl rfl rfl rfl <| qM rfl rfl rfl <| qF rfl rfl rfl zQ4 <| qL rfl rfl rfl rfl ta25 rfl <| qC rfl rfl rfl rfl rfl <| qP rfl rfl rfl rfl ?_
  refine qP rfl rfl rfl rfl <| qM rfl rfl rfl ?_
  refine zG0 (fun h60 => ?_) (fun h60 => ?_)
  ·
   refine qM rfl rfl rfl <| qM rfl rfl rfl <| qF rfl rfl rfl zR1 <| qL rfl rfl rfl rfl ta26 rfl <| qE rfl rfl zX rfl <| qC rfl rfl rfl rfl rfl <| qP rfl rfl rfl rfl <| qP rfl rfl rfl rfl <| qM rfl rfl rfl ?_
   refine zG0 (fun h69 => ?_) (fun h69 => ?_)
   ·
    refine qM rfl rfl rfl <| qM rfl rfl rfl <| qF rfl rfl rfl zI1 <| qL rfl rfl rfl rfl ta27 rfl <| qE rfl rfl zM rfl <| qC rfl rfl rfl rfl rfl <| qP rfl rfl rfl rfl <| qP rfl rfl rfl rfl <| qM rfl rfl rfl ?_
    refine zG0 (fun h78 => ?_) (fun h78 => ?_)
    ·
     refine qM rfl rfl rfl <| qM rfl rfl rfl <| qF rfl rfl rfl zF1 <| qL rfl rfl rfl rfl ta28 rfl <| qE rfl rfl zO rfl ?_
     try rw [zR]
     refine qC rfl rfl rfl rfl rfl <| qP rfl rfl rfl rfl <| qP rfl rfl rfl rfl <| qA rfl rfl rfl <| qN <| zK ?_
     exact zQ (.inr rfl) zK1 rfl (.of_eq (by congr 1; rw [zF]; simp_all [bareF, numsK, textsK, clocksK, valuesK, Val.nv, Val.mv, Val.sv, Val.cv, Val.vv])) (.bool _) ⟨rfl, rfl⟩
    ·
     refine qT rfl rfl rfl rfl <| qS rfl <| qS rfl <| qS rfl <| qP rfl rfl rfl rfl <| qA rfl rfl rfl <| qN <| zK ?_
     exact zQ (.inr rfl) zK1 rfl (.of_eq (by congr 1; rw [zF]; simp_all [bareF, numsK, textsK, clocksK, valuesK, Val.nv, Val.mv, Val.sv, Val.cv, Val.vv])) (.bool _) ⟨rfl, rfl⟩
   ·
    refine qT rfl rfl rfl rfl <| qS rfl <| qS rfl <| qS rfl <| qP rfl rfl rfl rfl <| qM rfl rfl rfl <| qT rfl rfl rfl rfl <| qS rfl <| qS rfl <| qS rfl <| qP rfl rfl rfl rfl <| qA rfl rfl rfl <| qN <| zK ?_
    exact zQ (.inr rfl) zK1 rfl (.of_eq (by congr 1; rw [zF]; simp_all [bareF, numsK, textsK, clocksK, valuesK, Val.nv, Val.mv, Val.sv, Val.cv, Val.vv])) (.bool _) ⟨rfl, rfl⟩
  ·
   refine qT rfl rfl rfl rfl <| qS rfl <| qS rfl <| qS rfl <| qP rfl rfl rfl rfl <| qM rfl rfl rfl <| qT rfl rfl rfl rfl <| qS rfl <| qS rfl <| qS rfl <| qP rfl rfl rfl rfl <| qM rfl rfl rfl <| qT rfl rfl rfl rfl <| qS rfl <| qS rfl <| qS rfl <| qP rfl rfl rfl rfl ?_
   refine qA rfl rfl rfl <| qN <| zK ?_
   exact zQ (.inr rfl) zK1 rfl (.of_eq (by congr 1; rw [zF]; simp_all [bareF, numsK, textsK, clocksK, valuesK, Val.nv, Val.mv, Val.sv, Val.cv, Val.vv])) (.bool _) ⟨rfl, rfl⟩
 ·
  refine zU zE5 rfl zL5 (zA rfl) ?_
  refine zB <| qR rfl <| qB rfl rfl rfl rfl rfl <| qA rfl rfl rfl <| qN <| zB <| qR rfl <| qM rfl rfl rfl <| qC rfl rfl rfl rfl rfl <| qM rfl rfl rfl <| qM rfl rfl rfl <| qC rfl rfl rfl rfl rfl <| qP rfl rfl rfl rfl <| qM rfl rfl rfl <| qS rfl <| qS rfl <| qP rfl rfl rfl rfl <| qA rfl rfl rfl <| qN ?_
  refine zB <| qR rfl <| qM rfl rfl rfl <| qC rfl rfl rfl rfl rfl <| qM rfl rfl rfl <| qM rfl rfl rfl <| qC rfl rfl rfl rfl rfl <| qP rfl rfl rfl rfl <| qM rfl rfl rfl <| qM rfl rfl rfl <| qC rfl rfl rfl rfl rfl <| qP rfl rfl rfl rfl <| qA rfl rfl rfl <| qN <| zB <| qR rfl <| qM rfl rfl rfl <| qC rfl rfl rfl rfl rfl ?_
  refine qM rfl rfl rfl <| qM rfl rfl rfl <| qC rfl rfl rfl rfl rfl <| qP rfl rfl rfl rfl <| qA rfl rfl rfl <| qN <| zB <| qR rfl <| qM rfl rfl rfl <| qC rfl rfl rfl rfl rfl <| qM rfl rfl rfl <| qM rfl rfl rfl <| qC rfl rfl rfl rfl rfl <| qP rfl rfl rfl rfl <| qM rfl rfl rfl <| qM rfl rfl rfl <| qC rfl rfl rfl rfl rfl ?_
  refine qP rfl rfl rfl rfl <| qA rfl rfl rfl <| qN <| zB <| qR rfl <| qM rfl rfl rfl <| qM rfl rfl rfl <| qS rfl <| qS rfl <| qS rfl <| qP rfl rfl rfl rfl <| qM rfl rfl rfl <| qM rfl rfl rfl <| qC rfl rfl rfl rfl rfl <| qM rfl rfl rfl <| qF rfl rfl rfl zQ4 <| qL rfl rfl rfl rfl ta25 rfl <| qC rfl rfl rfl rfl rfl ?_
  refine qP rfl rfl rfl rfl <| qP rfl rfl rfl rfl <| qM rfl rfl rfl ?_
  refine zG0 (fun h60 => ?_) (fun h60 => ?_)
  ·
   refine qM rfl rfl rfl <| qM rfl rfl rfl <| qF rfl rfl rfl zR1 <| qL rfl rfl rfl rfl ta26 rfl <| qE rfl rfl zX rfl <| qC rfl rfl rfl rfl rfl <| qP rfl rfl rfl rfl <| qP rfl rfl rfl rfl <| qM rfl rfl rfl ?_
   refine zG0 (fun h69 => ?_) (fun h69 => ?_)
   ·
    refine qM rfl rfl rfl <| qM rfl rfl rfl <| qF rfl rfl rfl zI1 <| qL rfl rfl rfl rfl ta27 rfl <| qE rfl rfl zM rfl <| qC rfl rfl rfl rfl rfl <| qP rfl rfl rfl rfl <| qP rfl rfl rfl rfl <| qM rfl rfl rfl ?_
    refine zG0 (fun h78 => ?_) (fun h78 => ?_)
    ·
     refine qM rfl rfl rfl <| qM rfl rfl rfl <| qF rfl rfl rfl zF1 <| qL rfl rfl rfl rfl ta28 rfl <| qE rfl rfl zO rfl ?_
     try rw [zR]
     refine qC rfl rfl rfl rfl rfl <| qP rfl rfl rfl rfl <| qP rfl rfl rfl rfl <| qA rfl rfl rfl <| qN <| zK ?_
     exact zQ (.inr rfl) zK1 rfl (.of_eq (by congr 1; rw [zF]; simp_all [bareF, numsK, textsK, clocksK, valuesK, Val.nv, Val.mv, Val.sv, Val.cv, Val.vv])) (.bool _) ⟨rfl, rfl⟩
    ·
     refine qT rfl rfl rfl rfl <| qS rfl <| qS rfl <| qS rfl <| qP rfl rfl rfl rfl <| qA rfl rfl rfl <| qN <| zK ?_
     exact zQ (.inr rfl) zK1 rfl (.of_eq (by congr 1; rw [zF]; simp_all [bareF, numsK, textsK, clocksK, valuesK, Val.nv, Val.mv, Val.sv, Val.cv, Val.vv])) (.bool _) ⟨rfl, rfl⟩
   ·
    refine qT rfl rfl rfl rfl <| qS rfl <| qS rfl <| qS rfl <| qP rfl rfl rfl rfl <| qM rfl rfl rfl <| qT rfl rfl rfl rfl <| qS rfl <| qS rfl <| qS rfl <| qP rfl rfl rfl rfl <| qA rfl rfl rfl <| qN <| zK ?_
    exact zQ (.inr rfl) zK1 rfl (.of_eq (by congr 1; rw [zF]; simp_all [bareF, numsK, textsK, clocksK, valuesK, Val.nv, Val.mv, Val.sv, Val.cv, Val.vv])) (.bool _) ⟨rfl, rfl⟩
  ·
   refine qT rfl rfl rfl rfl <| qS rfl <| qS rfl <| qS rfl <| qP rfl rfl rfl rfl <| qM rfl rfl rfl <| qT rfl rfl rfl rfl <| qS rfl <| qS rfl <| qS rfl <| qP rfl rfl rfl rfl <| qM rfl rfl rfl <| qT rfl rfl rfl rfl <| qS rfl <| qS rfl <| qS rfl <| qP rfl rfl rfl rfl ?_
   refine qA rfl rfl rfl <| qN <| zK ?_
   exact zQ (.inr rfl) zK1 rfl (.of_eq (by congr 1; rw [zF]; simp_all [bareF, numsK, textsK, clocksK, valuesK, Val.nv, Val.mv, Val.sv, Val.cv, Val.vv])) (.bool _) ⟨rfl, rfl⟩
 ·
  refine zU zE5 rfl zL5 (zA rfl) ?_
  refine zB <| qR rfl <| qB rfl rfl rfl rfl rfl <| qA rfl rfl rfl <| qN <| zB <| qR rfl <| qM rfl rfl rfl <| qC rfl rfl rfl rfl rfl <| qM rfl rfl rfl <| qM rfl rfl rfl <| qC rfl rfl rfl rfl rfl <| qP rfl rfl rfl rfl <| qM rfl rfl rfl <| qM rfl rfl rfl <| qC rfl rfl rfl rfl rfl <| qP rfl rfl rfl rfl <| qA rfl rfl rfl ?_
  refine qN <| zB <| qR rfl <| qM rfl rfl rfl <| qC rfl rfl rfl rfl rfl <| qM rfl rfl rfl <| qS rfl <| qS rfl <| qP rfl rfl rfl rfl <| qM rfl rfl rfl <| qS rfl <| qS rfl <| qP rfl rfl rfl rfl <| qA rfl rfl rfl <| qN <| zB <| qR rfl <| qM rfl rfl rfl <| qC rfl rfl rfl rfl rfl <| qM rfl rfl rfl ?_
  refine qM rfl rfl rfl <| qC rfl rfl rfl rfl rfl <| qP rfl rfl rfl rfl <| qA rfl rfl rfl <| qN <| zB <| qR rfl <| qM rfl rfl rfl <| qC rfl rfl rfl rfl rfl <| qM rfl rfl rfl <| qM rfl rfl rfl <| qC rfl rfl rfl rfl rfl <| qP rfl rfl rfl rfl <| qM rfl rfl rfl <| qM rfl rfl rfl <| qC rfl rfl rfl rfl rfl <| qP rfl rfl rfl rfl ?_
  refine qA rfl rfl rfl <| qN <| zB <| qR rfl <| qM rfl rfl rfl <| qM rfl rfl rfl <| qF rfl rfl rfl zB3 <| qL rfl rfl rfl rfl ta25 rfl <| qC rfl rfl rfl rfl rfl <| qP rfl rfl rfl rfl <| qM rfl rfl rfl ?_
  refine zG0 (fun h51 => ?_) (fun h51 => ?_)
  ·
   refine qM rfl rfl rfl <| qC rfl rfl rfl rfl rfl <| qM rfl rfl rfl <| qF rfl rfl rfl zQ4 <| qL rfl rfl rfl rfl ta25 rfl <| qC rfl rfl rfl rfl rfl <| qP rfl rfl rfl rfl <| qP rfl rfl rfl rfl <| qM rfl rfl rfl ?_
   refine zG0 (fun h60 => ?_) (fun h60 => ?_)
   ·
    refine qM rfl rfl rfl <| qM rfl rfl rfl <| qT rfl rfl rfl rfl <| qP rfl rfl rfl rfl <| qP rfl rfl rfl rfl <| qM rfl rfl rfl <| qM rfl rfl rfl <| qM rfl rfl rfl <| qF rfl rfl rfl zI1 <| qL rfl rfl rfl rfl ta27 rfl <| qE rfl rfl zM rfl <| qC rfl rfl rfl rfl rfl <| qP rfl rfl rfl rfl <| qP rfl rfl rfl rfl ?_
    refine qM rfl rfl rfl ?_
    refine zG0 (fun h78 => ?_) (fun h78 => ?_)
    ·
     refine qM rfl rfl rfl <| qM rfl rfl rfl <| qF rfl rfl rfl zF1 <| qL rfl rfl rfl rfl ta28 rfl <| qE rfl rfl zO rfl ?_
     try rw [zR]
     refine qC rfl rfl rfl rfl rfl <| qP rfl rfl rfl rfl <| qP rfl rfl rfl rfl <| qA rfl rfl rfl <| qN <| zK ?_
     exact zQ (.inr rfl) zK1 rfl (.of_eq (by congr 1; rw [zF]; simp_all [bareF, numsK, textsK, clocksK, valuesK, Val.nv, Val.mv, Val.sv, Val.cv, Val.vv])) (.bool _) ⟨rfl, rfl⟩
    ·
     refine qT rfl rfl rfl rfl <| qS rfl <| qS rfl <| qS rfl <| qP rfl rfl rfl rfl <| qA rfl rfl rfl <| qN <| zK ?_
     exact zQ (.inr rfl) zK1 rfl (.of_eq (by congr 1; rw [zF]; simp_all [bareF, numsK, textsK, clocksK, valuesK, Val.nv, Val.mv, Val.sv, Val.cv, Val.vv])) (.bool _) ⟨rfl, rfl⟩
   ·
    refine qT rfl rfl rfl rfl <| qS rfl <| qS rfl <| qS rfl <| qP rfl rfl rfl rfl <| qM rfl rfl rfl <| qT rfl rfl rfl rfl <| qS rfl <| qS rfl <| qS rfl <| qP rfl rfl rfl rfl <| qM rfl rfl rfl <| qT rfl rfl rfl rfl <| qS rfl <| qS rfl <| qS rfl <| qP rfl rfl rfl rfl ?_
    refine qA rfl rfl rfl <| qN <| zK ?_
    exact zQ (.inr rfl) zK1 rfl (.of_eq (by congr 1; rw [zF]; simp_all [bareF, numsK, textsK, clocksK, valuesK, Val.nv, Val.mv, Val.sv, Val.cv, Val.vv])) (.bool _) ⟨rfl, rfl⟩
  ·
   refine qT rfl rfl rfl rfl <| qS rfl <| qS rfl <| qS rfl <| qP rfl rfl rfl rfl <| qM rfl rfl rfl <| qT rfl rfl rfl rfl <| qS rfl <| qS rfl <| qS rfl <| qP rfl rfl rfl rfl <| qM rfl rfl rfl <| qT rfl rfl rfl rfl <| qS rfl <| qS rfl <| qS rfl <| qP rfl rfl rfl rfl ?_
   refine qM rfl rfl rfl <| qT rfl rfl rfl rfl <| qS rfl <| qS rfl <| qS rfl <| qP rfl rfl rfl rfl <| qA rfl rfl rfl <| qN <| zK ?_
   exact zQ (.inr rfl) zK1 rfl (.of_eq (by congr 1; rw [zF]; simp_all [bareF, numsK, textsK, clocksK, valuesK, Val.nv, Val.mv, Val.sv, Val.cv, Val.vv])) (.bool _) ⟨rfl, rfl⟩
 ·
  refine zU zE5 rfl zL5 (zA rfl) ?_
  refine zB <| qR rfl <| qB rfl rfl rfl rfl rfl <| qA rfl rfl rfl <| qN <| zB <| qR rfl <| qM rfl rfl rfl <| qC rfl rfl rfl rfl rfl <| qM rfl rfl rfl <| qM rfl rfl rfl <| qC rfl rfl rfl rfl rfl <| qP rfl rfl rfl rfl <| qM rfl rfl rfl <| qM rfl rfl rfl <| qC rfl rfl rfl rfl rfl <| qP rfl rfl rfl rfl <| qA rfl rfl rfl ?_
  refine qN <| zB <| qR rfl <| qM rfl rfl rfl <| qC rfl rfl rfl rfl rfl <| qM rfl rfl rfl <| qM rfl rfl rfl <| qC rfl rfl rfl rfl rfl <| qP rfl rfl rfl rfl <| qM rfl rfl rfl <| qS rfl <| qS rfl <| qP rfl rfl rfl rfl <| qA rfl rfl rfl <| qN <| zB <| qR rfl <| qM rfl rfl rfl <| qC rfl rfl rfl rfl rfl ?_
  refine qM rfl rfl rfl <| qM rfl rfl rfl <| qC rfl rfl rfl rfl rfl <| qP rfl rfl rfl rfl <| qA rfl rfl rfl <| qN <| zB <| qR rfl <| qM rfl rfl rfl <| qC rfl rfl rfl rfl rfl <| qM rfl rfl rfl <| qS rfl <| qS rfl <| qP rfl rfl rfl rfl <| qM rfl rfl rfl <| qS rfl <| qS rfl <| qP rfl rfl rfl rfl <| qA rfl rfl rfl ?_
  refine qN <| zB <| qR rfl <| qM rfl rfl rfl <| qM rfl rfl rfl <| qF rfl rfl rfl zB3 <| qL rfl rfl rfl rfl ta25 rfl <| qC rfl rfl rfl rfl rfl <| qP rfl rfl rfl rfl <| qM rfl rfl rfl ?_
  refine zG0 (fun h51 => ?_) (fun h51 => ?_)
  ·
   refine qM rfl rfl rfl <| qC rfl rfl rfl rfl rfl <| qM rfl rfl rfl <| qF rfl rfl rfl zQ4 <| qL rfl rfl rfl rfl ta25 rfl <| qC rfl rfl rfl rfl rfl <| qP rfl rfl rfl rfl <| qP rfl rfl rfl rfl <| qM rfl rfl rfl ?_
   refine zG0 (fun h60 => ?_) (fun h60 => ?_)
   ·
    refine qM rfl rfl rfl <| qM rfl rfl rfl <| qT rfl rfl rfl rfl <| qP rfl rfl rfl rfl <| qP rfl rfl rfl rfl <| qM rfl rfl rfl <| qM rfl rfl rfl <| qM rfl rfl rfl <| qF rfl rfl rfl zI1 <| qL rfl rfl rfl rfl ta27 rfl <| qE rfl rfl zM rfl <| qC rfl rfl rfl rfl rfl <| qP rfl rfl rfl rfl <| qP rfl rfl rfl rfl ?_
    refine qM rfl rfl rfl ?_
    refine zG0 (fun h78 => ?_) (fun h78 => ?_)
    ·
     refine qM rfl rfl rfl <| qM rfl rfl rfl <| qT rfl rfl rfl rfl <| qP rfl rfl rfl rfl <| qP rfl rfl rfl rfl <| qA rfl rfl rfl <| qN <| zK ?_
     exact zQ (.inr rfl) zK1 rfl (.of_eq (by congr 1; rw [zF]; simp_all [bareF, numsK, textsK, clocksK, valuesK, Val.nv, Val.mv, Val.sv, Val.cv, Val.vv])) (.bool _) ⟨rfl, rfl⟩
    ·
     refine qT rfl rfl rfl rfl <| qS rfl <| qS rfl <| qS rfl <| qP rfl rfl rfl rfl <| qA rfl rfl rfl <| qN <| zK ?_
     exact zQ (.inr rfl) zK1 rfl (.of_eq (by congr 1; rw [zF]; simp_all [bareF, numsK, textsK, clocksK, valuesK, Val.nv, Val.mv, Val.sv, Val.cv, Val.vv])) (.bool _) ⟨rfl, rfl⟩
   ·
    refine qT rfl rfl rfl rfl <| qS rfl <| qS rfl <| qS rfl <| qP rfl rfl rfl rfl <| qM rfl rfl rfl <| qT rfl rfl rfl rfl <| qS rfl <| qS rfl <| qS rfl <| qP rfl rfl rfl rfl <| qM rfl rfl rfl <| qT rfl rfl rfl rfl <| qS rfl <| qS rfl <| qS rfl <| qP rfl rfl rfl rfl ?_
    refine qA rfl rfl rfl <| qN <| zK ?_
    exact zQ (.inr rfl) zK1 rfl (.of_eq (by congr 1; rw [zF]; simp_all [bareF, numsK, textsK, clocksK, valuesK, Val.nv, Val.mv, Val.sv, Val.cv, Val.vv])) (.bool _) ⟨rfl, rfl⟩
  ·
   refine qT rfl rfl rfl rfl <| qS rfl <| qS rfl <| qS rfl <| qP rfl rfl rfl rfl <| qM rfl rfl rfl <| qT rfl rfl rfl rfl <| qS rfl <| qS rfl <| qS rfl <| qP rfl rfl rfl rfl <| qM rfl rfl rfl <| qT rfl rfl rfl rfl <| qS rfl <| qS rfl <| qS rfl <| qP rfl rfl rfl rfl ?_
   refine qM rfl rfl rfl <| qT rfl rfl rfl rfl <| qS rfl <| qS rfl <| qS rfl <| qP rfl rfl rfl rfl <| qA rfl rfl rfl <| qN <| zK ?_
   exact zQ (.inr rfl) zK1 rfl (.of_eq (by congr 1; rw [zF]; simp_all [bareF, numsK, textsK, clocksK, valuesK, Val.nv, Val.mv, Val.sv, Val.cv, Val.vv])) (.bool _) ⟨rfl, rfl⟩
 ·
  refine zU zE5 rfl zL5 (zA rfl) ?_
  refine zB <| qR rfl <| qB rfl rfl rfl rfl rfl <| qA rfl rfl rfl <| qN <| zB <| qR rfl <| qM rfl rfl rfl <| qC rfl rfl rfl rfl rfl <| qM rfl rfl rfl <| qM rfl rfl rfl <| qC rfl rfl rfl rfl rfl <| qP rfl rfl rfl rfl <| qM rfl rfl rfl <| qM rfl rfl rfl <| qC rfl rfl rfl rfl rfl <| qP rfl rfl rfl rfl <| qA rfl rfl rfl ?_
  refine qN <| zB <| qR rfl <| qM rfl rfl rfl <| qC rfl rfl rfl rfl rfl <| qM rfl rfl rfl <| qM rfl rfl rfl <| qC rfl rfl rfl rfl rfl <| qP rfl rfl rfl rfl <| qM rfl rfl rfl <| qM rfl rfl rfl <| qC rfl rfl rfl rfl rfl <| qP rfl rfl rfl rfl <| qA rfl rfl rfl <| qN <| zB <| qR rfl <| qM rfl rfl rfl ?_
  refine qC rfl rfl rfl rfl rfl <| qM rfl rfl rfl <| qM rfl rfl rfl <| qC rfl rfl rfl rfl rfl <| qP rfl rfl rfl rfl <| qA rfl rfl rfl <| qN <| zB <| qR rfl <| qM rfl rfl rfl <| qC rfl rfl rfl rfl rfl <| qM rfl rfl rfl <| qM rfl rfl rfl <| qC rfl rfl rfl rfl rfl <| qP rfl rfl rfl rfl <| qM rfl rfl rfl <| qS rfl ?_
  refine qS rfl <| qP rfl rfl rfl rfl <| qA rfl rfl rfl <| qN <| zB <| qR rfl <| qM rfl rfl rfl <| qM rfl rfl rfl <| qF rfl rfl rfl zB3 <| qL rfl rfl rfl rfl ta25 rfl <| qC rfl rfl rfl rfl rfl <| qP rfl rfl rfl rfl <| qM rfl rfl rfl ?_
  refine zG0 (fun h51 => ?_) (fun h51 => ?_)
  ·
   refine qM rfl rfl rfl <| qC rfl rfl rfl rfl rfl <| qM rfl rfl rfl <| qF rfl rfl rfl zQ4 <| qL rfl rfl rfl rfl ta25 rfl <| qC rfl rfl rfl rfl rfl <| qP rfl rfl rfl rfl <| qP rfl rfl rfl rfl <| qM rfl rfl rfl ?_
   refine zG0 (fun h60 => ?_) (fun h60 => ?_)
   ·
    refine qM rfl rfl rfl <| qM rfl rfl rfl <| qF rfl rfl rfl zR1 <| qL rfl rfl rfl rfl ta26 rfl <| qE rfl rfl zX rfl <| qC rfl rfl rfl rfl rfl <| qP rfl rfl rfl rfl <| qP rfl rfl rfl rfl <| qM rfl rfl rfl ?_
    refine zG0 (fun h69 => ?_) (fun h69 => ?_)
    ·
     refine qM rfl rfl rfl <| qM rfl rfl rfl <| qF rfl rfl rfl zI1 <| qL rfl rfl rfl rfl ta27 rfl <| qE rfl rfl zM rfl <| qC rfl rfl rfl rfl rfl <| qP rfl rfl rfl rfl <| qP rfl rfl rfl rfl <| qM rfl rfl rfl ?_
     refine zG0 (fun h78 => ?_) (fun h78 => ?_)
     ·
      refine qM rfl rfl rfl <| qM rfl rfl rfl <| qT rfl rfl rfl rfl <| qP rfl rfl rfl rfl <| qP rfl rfl rfl rfl <| qA rfl rfl rfl <| qN <| zK ?_
      exact zQ (.inr rfl) zK1 rfl (.of_eq (by congr 1; rw [zF]; simp_all [bareF, numsK, textsK, clocksK, valuesK, Val.nv, Val.mv, Val.sv, Val.cv, Val.vv])) (.bool _) ⟨rfl, rfl⟩
     ·
      refine qT rfl rfl rfl rfl <| qS rfl <| qS rfl <| qS rfl <| qP rfl rfl rfl rfl <| qA rfl rfl rfl <| qN <| zK ?_
      exact zQ (.inr rfl) zK1 rfl (.of_eq (by congr 1; rw [zF]; simp_all [bareF, numsK, textsK, clocksK, valuesK, Val.nv, Val.mv, Val.sv, Val.cv, Val.vv])) (.bool _) ⟨rfl, rfl⟩
    ·
     refine qT rfl rfl rfl rfl <| qS rfl <| qS rfl <| qS rfl <| qP rfl rfl rfl rfl <| qM rfl rfl rfl <| qT rfl rfl rfl rfl <| qS rfl <| qS rfl <| qS rfl <| qP rfl rfl rfl rfl <| qA rfl rfl rfl <| qN <| zK ?_
     exact zQ (.inr rfl) zK1 rfl (.of_eq (by congr 1; rw [zF]; simp_all [bareF, numsK, textsK, clocksK, valuesK, Val.nv, Val.mv, Val.sv, Val.cv, Val.vv])) (.bool _) ⟨rfl, rfl⟩
   ·
    refine qT rfl rfl rfl rfl <| qS rfl <| qS rfl <| qS rfl <| qP rfl rfl rfl rfl <| qM rfl rfl rfl <| qT rfl rfl rfl rfl <| qS rfl <| qS rfl <| qS rfl <| qP rfl rfl rfl rfl <| qM rfl rfl rfl <| qT rfl rfl rfl rfl <| qS rfl <| qS rfl <| qS rfl <| qP rfl rfl rfl rfl ?_
    refine qA rfl rfl rfl <| qN <| zK ?_
    exact zQ (.inr rfl) zK1 rfl (.of_eq (by congr 1; rw [zF]; simp_all [bareF, numsK, textsK, clocksK, valuesK, Val.nv, Val.mv, Val.sv, Val.cv, Val.vv])) (.bool _) ⟨rfl, rfl⟩
  ·
   refine qT rfl rfl rfl rfl <| qS rfl <| qS rfl <| qS rfl <| qP rfl rfl rfl rfl <| qM rfl rfl rfl <| qT rfl rfl rfl rfl <| qS rfl <| qS rfl <| qS rfl <| qP rfl rfl rfl rfl <| qM rfl rfl rfl <| qT rfl rfl rfl rfl <| qS rfl <| qS rfl <| qS rfl <| qP rfl rfl rfl rfl ?_
   refine qM rfl rfl rfl <| qT rfl rfl rfl rfl <| qS rfl <| qS rfl <| qS rfl <| qP rfl rfl rfl rfl <| qA rfl rfl rfl <| qN <| zK ?_
   exact zQ (.inr rfl) zK1 rfl (.of_eq (by congr 1; rw [zF]; simp_all [bareF, numsK, textsK, clocksK, valuesK, Val.nv, Val.mv, Val.sv, Val.cv, Val.vv])) (.bool _) ⟨rfl, rfl⟩
 ·
  refine zU zE5 rfl zL5 (zA rfl) ?_
  refine zB <| qR rfl <| qB rfl rfl rfl rfl rfl <| qA rfl rfl rfl <| qN <| zB <| qR rfl <| qM rfl rfl rfl <| qC rfl rfl rfl rfl rfl <| qM rfl rfl rfl <| qM rfl rfl rfl <| qC rfl rfl rfl rfl rfl <| qP rfl rfl rfl rfl <| qM rfl rfl rfl <| qM rfl rfl rfl <| qC rfl rfl rfl rfl rfl <| qP rfl rfl rfl rfl <| qA rfl rfl rfl ?_
  refine qN <| zB <| qR rfl <| qM rfl rfl rfl <| qC rfl rfl rfl rfl rfl <| qM rfl rfl rfl <| qM rfl rfl rfl <| qC rfl rfl rfl rfl rfl <| qP rfl rfl rfl rfl <| qM rfl rfl rfl <| qM rfl rfl rfl <| qC rfl rfl rfl rfl rfl <| qP rfl rfl rfl rfl <| qA rfl rfl rfl <| qN <| zB <| qR rfl <| qM rfl rfl rfl ?_
  refine qC rfl rfl rfl rfl rfl <| qM rfl rfl rfl <| qM rfl rfl rfl <| qC rfl rfl rfl rfl rfl <| qP rfl rfl rfl rfl <| qA rfl rfl rfl <| qN <| zB <| qR rfl <| qM rfl rfl rfl <| qC rfl rfl rfl rfl rfl <| qM rfl rfl rfl <| qM rfl rfl rfl <| qC rfl rfl rfl rfl rfl <| qP rfl rfl rfl rfl <| qM rfl rfl rfl <| qM rfl rfl rfl ?_
  refine qC rfl rfl rfl rfl rfl <| qP rfl rfl rfl rfl <| qA rfl rfl rfl <| qN <| zB <| qR rfl <| qM rfl rfl rfl <| qM rfl rfl rfl <| qS rfl <| qS rfl <| qS rfl <| qP rfl rfl rfl rfl <| qM rfl rfl rfl <| qM rfl rfl rfl <| qC rfl rfl rfl rfl rfl <| qM rfl rfl rfl <| qS rfl <| qS rfl <| qS rfl <| qP rfl rfl rfl rfl ?_
  refine qP rfl rfl rfl rfl <| qM rfl rfl rfl <| qM rfl rfl rfl <| qM rfl rfl rfl <| qT rfl rfl rfl rfl <| qP rfl rfl rfl rfl <| qP rfl rfl rfl rfl <| qM rfl rfl rfl <| qM rfl rfl rfl <| qM rfl rfl rfl <| qF rfl rfl rfl zI1 <| qL rfl rfl rfl rfl ta27 rfl <| qE rfl rfl zM rfl <| qC rfl rfl rfl rfl rfl ?_
  refine qP rfl rfl rfl rfl <| qP rfl rfl rfl rfl <| qM rfl rfl rfl ?_
  refine zG0 (fun h78 => ?_) (fun h78 => ?_)
  ·
   refine qM rfl rfl rfl <| qM rfl rfl rfl <| qF rfl rfl rfl zF1 <| qL rfl rfl rfl rfl ta28 rfl <| qE rfl rfl zO rfl ?_
   try rw [zR]
   refine qC rfl rfl rfl rfl rfl <| qP rfl rfl rfl rfl <| qP rfl rfl rfl rfl <| qA rfl rfl rfl <| qN <| zK ?_
   exact zQ (.inr rfl) zK1 rfl (.of_eq (by congr 1; rw [zF]; simp_all [bareF, numsK, textsK, clocksK, valuesK, Val.nv, Val.mv, Val.sv, Val.cv, Val.vv])) (.bool _) ⟨rfl, rfl⟩
  ·
   refine qT rfl rfl rfl rfl <| qS rfl <| qS rfl <| qS rfl <| qP rfl rfl rfl rfl <| qA rfl rfl rfl <| qN <| zK ?_
   exact zQ (.inr rfl) zK1 rfl (.of_eq (by congr 1; rw [zF]; simp_all [bareF, numsK, textsK, clocksK, valuesK, Val.nv, Val.mv, Val.sv, Val.cv, Val.vv])) (.bool _) ⟨rfl, rfl⟩
 ·
  refine zU zE5 rfl zL5 (zA rfl) ?_
  refine zB <| qR rfl <| qB rfl rfl rfl rfl rfl <| qA rfl rfl rfl <| qN <| zB <| qR rfl <| qM rfl rfl rfl <| qC rfl rfl rfl rfl rfl <| qM rfl rfl rfl <| qM rfl rfl rfl <| qC rfl rfl rfl rfl rfl <| qP rfl rfl rfl rfl <| qM rfl rfl rfl <| qM rfl rfl rfl <| qC rfl rfl rfl rfl rfl <| qP rfl rfl rfl rfl <| qA rfl rfl rfl ?_
  refine qN <| zB <| qR rfl <| qM rfl rfl rfl <| qC rfl rfl rfl rfl rfl <| qM rfl rfl rfl <| qM rfl rfl rfl <| qC rfl rfl rfl rfl rfl <| qP rfl rfl rfl rfl <| qM rfl rfl rfl <| qM rfl rfl rfl <| qC rfl rfl rfl rfl rfl <| qP rfl rfl rfl rfl <| qA rfl rfl rfl <| qN <| zB <| qR rfl <| qM rfl rfl rfl ?_
  refine qC rfl rfl rfl rfl rfl <| qM rfl rfl rfl <| qS rfl <| qS rfl <| qP rfl rfl rfl rfl <| qA rfl rfl rfl <| qN <| zB <| qR rfl <| qM rfl rfl rfl <| qC rfl rfl rfl rfl rfl <| qM rfl rfl rfl <| qM rfl rfl rfl <| qC rfl rfl rfl rfl rfl <| qP rfl rfl rfl rfl <| qM rfl rfl rfl <| qM rfl rfl rfl <| qC rfl rfl rfl rfl rfl ?_
  refine qP rfl rfl rfl rfl <| qA rfl rfl rfl <| qN <| zB <| qR rfl <| qM rfl rfl rfl <| qM rfl rfl rfl <| qF rfl rfl rfl zB3 <| qL rfl rfl rfl rfl ta25 rfl <| qC rfl rfl rfl rfl rfl <| qP rfl rfl rfl rfl <| qM rfl rfl rfl ?_
  refine zG0 (fun h51 => ?_) (fun h51 => ?_)
  ·
   refine qM rfl rfl rfl <| qC rfl rfl rfl rfl rfl <| qM rfl rfl rfl <| qF rfl rfl rfl zQ4 <| qL rfl rfl rfl rfl ta25 rfl <| qC rfl rfl rfl rfl rfl <| qP rfl rfl rfl rfl <| qP rfl rfl rfl rfl <| qM rfl rfl rfl ?_
   refine zG0 (fun h60 => ?_) (fun h60 => ?_)
   ·
    refine qM rfl rfl rfl <| qM rfl rfl rfl <| qF rfl rfl rfl zR1 <| qL rfl rfl rfl rfl ta26 rfl <| qE rfl rfl zX rfl <| qC rfl rfl rfl rfl rfl <| qP rfl rfl rfl rfl <| qP rfl rfl rfl rfl <| qM rfl rfl rfl ?_
    refine zG0 (fun h69 => ?_) (fun h69 => ?_)
    ·
     refine qM rfl rfl rfl <| qM rfl rfl rfl <| qT rfl rfl rfl rfl <| qP rfl rfl rfl rfl <| qP rfl rfl rfl rfl <| qM rfl rfl rfl <| qM rfl rfl rfl <| qM rfl rfl rfl <| qF rfl rfl rfl zF1 <| qL rfl rfl rfl rfl ta28 rfl <| qE rfl rfl zO rfl ?_
     try rw [zR]
     refine qC rfl rfl rfl rfl rfl <| qP rfl rfl rfl rfl <| qP rfl rfl rfl rfl <| qA rfl rfl rfl <| qN <| zK ?_
     exact zQ (.inr rfl) zK1 rfl (.of_eq (by congr 1; rw [zF]; simp_all [bareF, numsK, textsK, clocksK, valuesK, Val.nv, Val.mv, Val.sv, Val.cv, Val.vv])) (.bool _) ⟨rfl, rfl⟩
    ·
     refine qT rfl rfl rfl rfl <| qS rfl <| qS rfl <| qS rfl <| qP rfl rfl rfl rfl <| qM rfl rfl rfl <| qT rfl rfl rfl rfl <| qS rfl <| qS rfl <| qS rfl <| qP rfl rfl rfl rfl <| qA rfl rfl rfl <| qN <| zK ?_
     exact zQ (.inr rfl) zK1 rfl (.of_eq (by congr 1; rw [zF]; simp_all [bareF, numsK, textsK, clocksK, valuesK, Val.nv, Val.mv, Val.sv, Val.cv, Val.vv])) (.bool _) ⟨rfl, rfl⟩
   ·
    refine qT rfl rfl rfl rfl <| qS rfl <| qS rfl <| qS rfl <| qP rfl rfl rfl rfl <| qM rfl rfl rfl <| qT rfl rfl rfl rfl <| qS rfl <| qS rfl <| qS rfl <| qP rfl rfl rfl rfl <| qM rfl rfl rfl <| qT rfl rfl rfl rfl <| qS rfl <| qS rfl <| qS rfl <| qP rfl rfl rfl rfl ?_
    refine qA rfl rfl rfl <| qN <| zK ?_
    exact zQ (.inr rfl) zK1 rfl (.of_eq (by congr 1; rw [zF]; simp_all [bareF, numsK, textsK, clocksK, valuesK, Val.nv, Val.mv, Val.sv, Val.cv, Val.vv])) (.bool _) ⟨rfl, rfl⟩
  ·
   refine qT rfl rfl rfl rfl <| qS rfl <| qS rfl <| qS rfl <| qP rfl rfl rfl rfl <| qM rfl rfl rfl <| qT rfl rfl rfl rfl <| qS rfl <| qS rfl <| qS rfl <| qP rfl rfl rfl rfl <| qM rfl rfl rfl <| qT rfl rfl rfl rfl <| qS rfl <| qS rfl <| qS rfl <| qP rfl rfl rfl rfl ?_
   refine qM rfl rfl rfl <| qT rfl rfl rfl rfl <| qS rfl <| qS rfl <| qS rfl <| qP rfl rfl rfl rfl <| qA rfl rfl rfl <| qN <| zK ?_
   exact zQ (.inr rfl) zK1 rfl (.of_eq (by congr 1; rw [zF]; simp_all [bareF, numsK, textsK, clocksK, valuesK, Val.nv, Val.mv, Val.sv, Val.cv, Val.vv])) (.bool _) ⟨rfl, rfl⟩
 ·
  refine zU zE5 rfl zL5 (zA rfl) ?_
  refine zB <| qR rfl <| qB rfl rfl rfl rfl rfl <| qA rfl rfl rfl <| qN <| zB <| qR rfl <| qM rfl rfl rfl <| qC rfl rfl rfl rfl rfl <| qM rfl rfl rfl <| qM rfl rfl rfl <| qC rfl rfl rfl rfl rfl <| qP rfl rfl rfl rfl <| qM rfl rfl rfl <| qM rfl rfl rfl <| qC rfl rfl rfl rfl rfl <| qP rfl rfl rfl rfl <| qA rfl rfl rfl ?_
  refine qN <| zB <| qR rfl <| qM rfl rfl rfl <| qC rfl rfl rfl rfl rfl <| qM rfl rfl rfl <| qM rfl rfl rfl <| qC rfl rfl rfl rfl rfl <| qP rfl rfl rfl rfl <| qM rfl rfl rfl <| qM rfl rfl rfl <| qC rfl rfl rfl rfl rfl <| qP rfl rfl rfl rfl <| qA rfl rfl rfl <| qN <| zB <| qR rfl <| qM rfl rfl rfl ?_
  refine qC rfl rfl rfl rfl rfl <| qM rfl rfl rfl <| qM rfl rfl rfl <| qC rfl rfl rfl rfl rfl <| qP rfl rfl rfl rfl <| qA rfl rfl rfl <| qN <| zB <| qR rfl <| qM rfl rfl rfl <| qC rfl rfl rfl rfl rfl <| qM rfl rfl rfl <| qM rfl rfl rfl <| qC rfl rfl rfl rfl rfl <| qP rfl rfl rfl rfl <| qM rfl rfl rfl <| qM rfl rfl rfl ?_
  refine qC rfl rfl rfl rfl rfl <| qP rfl rfl rfl rfl <| qA rfl rfl rfl <| qN <| zB <| qR rfl <| qM rfl rfl rfl <| qM rfl rfl rfl <| qF rfl rfl rfl zB3 <| qL rfl rfl rfl rfl ta25 rfl <| qC rfl rfl rfl rfl rfl <| qP rfl rfl rfl rfl <| qM rfl rfl rfl ?_
  refine zG0 (fun h51 => ?_) (fun h51 => ?_)
  ·
   refine qM rfl rfl rfl <| qC rfl rfl rfl rfl rfl <| qM rfl rfl rfl <| qF rfl rfl rfl zQ4 <| qL rfl rfl rfl rfl ta25 rfl <| qC rfl rfl rfl rfl rfl <| qP rfl rfl rfl rfl <| qP rfl rfl rfl rfl <| qM rfl rfl rfl ?_
   refine zG0 (fun h60 => ?_) (fun h60 => ?_)
   ·
    refine qM rfl rfl rfl <| qM rfl rfl rfl <| qF rfl rfl rfl zR1 <| qL rfl rfl rfl rfl ta26 rfl <| qE rfl rfl zX rfl <| qC rfl rfl rfl rfl rfl <| qP rfl rfl rfl rfl <| qP rfl rfl rfl rfl <| qM rfl rfl rfl ?_
    refine zG0 (fun h69 => ?_) (fun h69 => ?_)
    ·
     refine qM rfl rfl rfl <| qM rfl rfl rfl <| qT rfl rfl rfl rfl <| qP rfl rfl rfl rfl <| qP rfl rfl rfl rfl <| qM rfl rfl rfl <| qM rfl rfl rfl <| qM rfl rfl rfl <| qT rfl rfl rfl rfl <| qP rfl rfl rfl rfl <| qP rfl rfl rfl rfl <| qA rfl rfl rfl <| qN <| zK ?_
     exact zQ (.inr rfl) zK1 rfl (.of_eq (by congr 1; rw [zF]; simp_all [bareF, numsK, textsK, clocksK, valuesK, Val.nv, Val.mv, Val.sv, Val.cv, Val.vv])) (.bool _) ⟨rfl, rfl⟩
    ·
     refine qT rfl rfl rfl rfl <| qS rfl <| qS rfl <| qS rfl <| qP rfl rfl rfl rfl <| qM rfl rfl rfl <| qT rfl rfl rfl rfl <| qS rfl <| qS rfl <| qS rfl <| qP rfl rfl rfl rfl <| qA rfl rfl rfl <| qN <| zK ?_
     exact zQ (.inr rfl) zK1 rfl (.of_eq (by congr 1; rw [zF]; simp_all [bareF, numsK, textsK, clocksK, valuesK, Val.nv, Val.mv, Val.sv, Val.cv, Val.vv])) (.bool _) ⟨rfl, rfl⟩
   ·
    refine qT rfl rfl rfl rfl <| qS rfl <| qS rfl <| qS rfl <| qP rfl rfl rfl rfl <| qM rfl rfl rfl <| qT rfl rfl rfl rfl <| qS rfl <| qS rfl <| qS rfl <| qP rfl rfl rfl rfl <| qM rfl rfl rfl <| qT rfl rfl rfl rfl <| qS rfl <| qS rfl <| qS rfl <| qP rfl rfl rfl rfl ?_
    refine qA rfl rfl rfl <| qN <| zK ?_
    exact zQ (.inr rfl) zK1 rfl (.of_eq (by congr 1; rw [zF]; simp_all [bareF, numsK, textsK, clocksK, valuesK, Val.nv, Val.mv, Val.sv, Val.cv, Val.vv])) (.bool _) ⟨rfl, rfl⟩
  ·
   refine qT rfl rfl rfl rfl <| qS rfl <| qS rfl <| qS rfl <| qP rfl rfl rfl rfl <| qM rfl rfl rfl <| qT rfl rfl rfl rfl <| qS rfl <| qS rfl <| qS rfl <| qP rfl rfl rfl rfl <| qM rfl rfl rfl <| qT rfl rfl rfl rfl <| qS rfl <| qS rfl <| qS rfl <| qP rfl rfl rfl rfl ?_
   refine qM rfl rfl rfl <| qT rfl rfl rfl rfl <| qS rfl <| qS rfl <| qS rfl <| qP rfl rfl rfl rfl <| qA rfl rfl rfl <| qN <| zK ?_
   exact zQ (.inr rfl) zK1 rfl (.of_eq (by congr 1; rw [zF]; simp_all [bareF, numsK, textsK, clocksK, valuesK, Val.nv, Val.mv, Val.sv, Val.cv, Val.vv])) (.bool _) ⟨rfl, rfl⟩
theorem _root_.zM6 : type_of% @bare_spec := @bare_spec
theorem is1v_spec (k k1 : Int) (i1 rest : List Sch) (f : Val → Bool) (ih : ∀ x, okV x → ∀ S : MS, MCalls Tryz.prog 49 [encS (.mk k1 i1), encV x] S fun v σ' => v = .bool (f x) ∧ σ' = S) (x : Val) (hx : okV x) (id : Nat) (S : MS) (hS : S[id]? = some (.cells [.int .i64 k, .lst none 2 (encSs (.mk k1 i1 :: rest))])) : MCalls Tryz.prog 82 [encV x, .ref id 0] S fun v σ' => v = .bool (f x) ∧ σ' = S := by
 obtain ⟨n, m, s, c, w⟩ := x
 refine zU Tryz.func82 rfl Tryz.ntmps82 (zA rfl) ?_
 refine zB <| qR rfl <| qB rfl rfl rfl rfl rfl <| qA rfl rfl rfl <| qN <| zB ?_
 refine zU0 [] [_] mo (by decide) rfl rfl rfl rfl ?_
 refine dO rfl rfl rfl (zE rfl rfl zU2 ⟨rfl, rfl⟩) <| dO rfl rfl rfl (op_load_far rfl rfl hS ta22 rfl ⟨rfl, rfl⟩) <| dO rfl rfl rfl (zG rfl zR0 sz24 (by decide) rfl rfl rfl (show _ = some (encS (.mk k1 i1)) from rfl) ⟨rfl, rfl⟩) ?_
 refine dO rfl rfl rfl (zH rfl rfl ta24 rfl ⟨rfl, rfl⟩) <| dO rfl rfl rfl (zD0 rfl rfl rfl ta30 rfl ⟨rfl, rfl⟩) <| zS rfl rfl (.cons (zH1 rfl rfl rfl co49 (ih (.mk n m s c w) hx _)) .nil) <| dO rfl rfl rfl (zB1 rfl rfl ⟨rfl, rfl⟩) <| zL0 <| zK ?_
 exact zQ (.inr rfl) Tryz.results82 rfl (.of_eq (rfl)) (.bool _) ⟨rfl, rfl⟩
theorem is2v_spec (k k1 : Int) (i1 rest : List Sch) (f : Val → Bool) (ih : ∀ x, okV x → ∀ S : MS, MCalls Tryz.prog 49 [encS (.mk k1 i1), encV x] S fun v σ' => v = .bool (f x) ∧ σ' = S) (x : Val) (hx : okV x) (ida ids : Nat) (S : MS) (hA : S[ida]? = some (.cells [.fn (.func 82) [] [.ref ids 0]])) (hS : S[ids]? = some (.cells [.int .i64 k, .lst none 2 (encSs (.mk k1 i1 :: rest))])) : MCalls Tryz.prog 85 [encV x, .ref ida 0, .ref ids 0] S fun v σ' => v = .bool (!f x || noneF (.mk k1 i1) x) ∧ σ' = S := by
 obtain ⟨n, m, s, c, w⟩ := x
 refine zU Tryz.func85 rfl Tryz.ntmps85 (zA rfl) ?_
 refine zB <| qR rfl <| qB rfl rfl rfl rfl rfl <| qA rfl rfl rfl <| qN <| zB ?_
 refine zU0 [] [_] mo (by decide) rfl rfl rfl rfl ?_
 refine zS rfl rfl (.cons (op_load_far rfl rfl hA ta54 rfl ⟨rfl, rfl⟩) .nil) ?_
 refine dO rfl rfl rfl (zD0 rfl rfl rfl ta30 rfl ⟨rfl, rfl⟩) <| zS rfl rfl (.cons (zH1 rfl rfl rfl co82 (is1v_spec k k1 i1 rest f ih (.mk n m s c w) hx ids _ (zZ hS))) .nil) <| dO rfl rfl rfl (zG1 rfl rfl ⟨rfl, rfl⟩) <| dO rfl rfl rfl (zV rfl rfl ⟨rfl, rfl⟩) ?_
 refine zH2 (fun h9 => ?_) (fun h9 => ?_)
 ·
  refine dS rfl rfl <| dS rfl rfl <| dS rfl rfl <| dS rfl rfl <| dS rfl rfl <| dS rfl rfl <| dO rfl rfl rfl (zE1 rfl rfl rfl ⟨rfl, rfl⟩) <| dO rfl rfl rfl (zB1 rfl rfl ⟨rfl, rfl⟩) <| zL0 <| zK ?_
  exact zQ (.inr rfl) Tryz.results85 rfl (.of_eq (by simp_all)) (.bool _) ⟨rfl, rfl⟩
 ·
  refine dO rfl rfl rfl (zE rfl rfl zU2 ⟨rfl, rfl⟩) <| dO rfl rfl rfl (op_load_far rfl rfl hS ta22 rfl ⟨rfl, rfl⟩) <| dO rfl rfl rfl (zG rfl zR0 sz24 (by decide) rfl rfl rfl (show _ = some (encS (.mk k1 i1)) from rfl) ⟨rfl, rfl⟩) ?_
  refine dO rfl rfl rfl (zH rfl rfl ta24 rfl ⟨rfl, rfl⟩) <| dO rfl rfl rfl (zD0 rfl rfl rfl ta30 rfl ⟨rfl, rfl⟩) <| zS rfl rfl (.cons (zH1 rfl rfl rfl co86 (None_spec (.mk k1 i1) (.mk n m s c w) _)) .nil) <| dO rfl rfl rfl (zE1 rfl rfl rfl ⟨rfl, rfl⟩) <| dO rfl rfl rfl (zB1 rfl rfl ⟨rfl, rfl⟩) <| zL0 <| zK ?_
  exact zQ (.inr rfl) Tryz.results85 rfl (.of_eq (by simp_all)) (.bool _) ⟨rfl, rfl⟩
theorem is3v_spec (k k1 : Int) (i1 rest : List Sch) (f : Val → Bool) (ih : ∀ x, okV x → ∀ S : MS, MCalls Tryz.prog 49 [encS (.mk k1 i1), encV x] S fun v σ' => v = .bool (f x) ∧ σ' = S) (x : Val) (hx : okV x) (ida ids : Nat) (S : MS) (hA : S[ida]? = some (.cells [.fn (.func 82) [] [.ref ids 0]])) (hS : S[ids]? = some (.cells [.int .i64 k, .lst none 2 (encSs (.mk k1 i1 :: rest))])) : MCalls Tryz.prog 90 [encV x, .ref ida 0] S fun v σ' => v = .bool (!f x) ∧ σ' = S := by
 obtain ⟨n, m, s, c, w⟩ := x
 refine zU Tryz.func90 rfl Tryz.ntmps90 (zA rfl) ?_
 refine zB <| qR rfl <| qB rfl rfl rfl rfl rfl <| qA rfl rfl rfl <| qN <| zB <| qR rfl <| qO rfl <| op_load_far rfl rfl hA ta54 rfl <| qL rfl rfl rfl rfl ta30 rfl ?_
 refine qX rfl rfl rfl rfl co82 (is1v_spec k k1 i1 rest f ih (.mk n m s c w) hx ids _ (zZ hS)) ?_
 refine qO rfl <| zG1 rfl rfl <| qA rfl rfl rfl <| qN <| zK ?_
 exact zQ (.inr rfl) Tryz.results90 rfl (.of_eq (rfl)) (.bool _) ⟨rfl, rfl⟩
theorem _root_.zM5 : type_of% @Tryz.ntmps49 := @Tryz.ntmps49
theorem _root_.zA1 : type_of% @Tryz.results49 := @Tryz.results49
theorem isV_spec (d : Nat) : ∀ (s : Sch), isF d s = true → ∀ x : Val, okV x → ∀ S : MS, MCalls Tryz.prog 49 [encS s, encV x] S fun v σ' => v = .bool (isVF s x) ∧ σ' = S := by
 induction d with
 | zero => intro s h; simp [isF] at h
 | succ d ih =>
 rintro ⟨k, ins⟩ hd ⟨n, m, s, c, w⟩ hv S
 rw [isF] at hd
 simp only [Bool.and_eq_true, List.all_eq_true, beq_iff_eq] at hd
 simp only [okV] at hv
 have hvs := okVs_iff.1 hv.2.2.2
 rcases k8_of hd.1 with rfl | rfl | rfl | rfl | rfl | rfl | rfl | rfl
 ·
  refine zU zC5 rfl zM5 (zA rfl) ?_
  refine zB <| qR rfl <| qB rfl rfl rfl rfl rfl <| qB rfl rfl rfl rfl rfl <| qA rfl rfl rfl <| qN <| zB <| zB <| qR rfl <| qF rfl rfl rfl zG2 <| qL rfl rfl rfl rfl ta3 rfl <| qL rfl rfl rfl rfl ta30 rfl ?_
  refine qX rfl rfl rfl rfl co81 (zM6 1 (by omega) n m s c w _) ?_
  refine qO rfl <| zG1 rfl rfl <| qM rfl rfl rfl ?_
  refine zG0 (fun h11 => ?_) (fun h11 => ?_)
  ·
   refine qT rfl rfl rfl rfl <| qP rfl rfl rfl rfl <| qM rfl rfl rfl <| qT rfl rfl rfl rfl <| qP rfl rfl rfl rfl <| qN <| zW rfl (rfl) <| zB <| qR rfl <| qA rfl rfl rfl <| qN <| zK ?_
   exact zQ (.inr rfl) zA1 rfl (.of_eq (by rw [zO1 1]; congr 1; symm; first | (rw [show bareF 1 _ = false by simpa using h11]; rfl) | (rw [w40f]; simp; done) | (rw [c40f]; simp; done))) (.bool _) ⟨rfl, rfl⟩
  ·
   refine qF rfl rfl rfl zF1 <| qL rfl rfl rfl rfl ta28 rfl <| qE rfl rfl zO rfl <| qC rfl rfl rfl rfl rfl <| qP rfl rfl rfl rfl <| qM rfl rfl rfl ?_
   refine zG0 (fun h17 => ?_) (fun h17 => ?_)
   ·
    have w40f := decide_eq_false (by rw [zR] at h17; simp at h17; omega : ¬ w.length ≤ 40)
    refine qT rfl rfl rfl rfl <| qP rfl rfl rfl rfl <| qN <| zW rfl (rfl) <| zB <| qR rfl <| qA rfl rfl rfl <| qN <| zK ?_
    exact zQ (.inr rfl) zA1 rfl (.of_eq (by rw [zO1 1]; congr 1; symm; first | (rw [show bareF 1 _ = false by simpa using h11]; rfl) | (rw [w40f]; simp; done) | (rw [c40f]; simp; done))) (.bool _) ⟨rfl, rfl⟩
   ·
    have w40t := decide_eq_true (by rw [zR] at h17; simp at h17; omega : w.length ≤ 40)
    refine qF rfl rfl rfl zI1 <| qL rfl rfl rfl rfl ta27 rfl <| qE rfl rfl zM rfl <| qC rfl rfl rfl rfl rfl <| qP rfl rfl rfl rfl <| qN ?_
    refine zJ rfl (fun h22 => ?_) (fun h22 => ?_)
    ·
     have c40f := decide_eq_false (by rw [zC] at h22; simp at h22; omega : ¬ c.length ≤ 40)
     refine zB <| qR rfl <| qA rfl rfl rfl <| qN <| zK ?_
     exact zQ (.inr rfl) zA1 rfl (.of_eq (by rw [zO1 1]; congr 1; symm; first | (rw [show bareF 1 _ = false by simpa using h11]; rfl) | (rw [w40f]; simp; done) | (rw [c40f]; simp; done))) (.bool _) ⟨rfl, rfl⟩
    ·
     have c40t := decide_eq_true (by rw [zC] at h22; simp at h22; omega : c.length ≤ 40)
     refine zA0 <| zB <| qR rfl <| qO rfl <| zP2 rfl rfl rfl <| qO rfl <| zN0 rfl zm54 rfl rfl <| qO rfl <| zH0 rfl rfl rfl rfl sz54 rfl rfl (zA rfl) rfl <| qN <| zB <| zB <| qR rfl <| qF rfl rfl rfl zG2 <| qL rfl rfl rfl rfl ta3 rfl <| qN <| zB0 <| zB <| qR rfl <| qC rfl rfl rfl rfl rfl <| qA rfl rfl rfl <| qN <| zW rfl (rfl) <| zB <| qR rfl <| qA rfl rfl rfl ?_
     refine qN <| zK ?_
     exact zQ (.inr rfl) zA1 rfl (.of_eq (by rw [zO1 1]; rw [show bareF 1 _ = true by simpa using h11, w40t, c40t]; simp only [Bool.true_and, isVL, List.headD_cons, List.tail_cons]; rfl)) (.bool _) ⟨rfl, rfl⟩
 ·
  refine zU zC5 rfl zM5 (zA rfl) ?_
  refine zB <| qR rfl <| qB rfl rfl rfl rfl rfl <| qB rfl rfl rfl rfl rfl <| qA rfl rfl rfl <| qN <| zB <| zB <| qR rfl <| qF rfl rfl rfl zG2 <| qL rfl rfl rfl rfl ta3 rfl <| qL rfl rfl rfl rfl ta30 rfl ?_
  refine qX rfl rfl rfl rfl co81 (zM6 2 (by omega) n m s c w _) ?_
  refine qO rfl <| zG1 rfl rfl <| qM rfl rfl rfl ?_
  refine zG0 (fun h11 => ?_) (fun h11 => ?_)
  ·
   refine qT rfl rfl rfl rfl <| qP rfl rfl rfl rfl <| qM rfl rfl rfl <| qT rfl rfl rfl rfl <| qP rfl rfl rfl rfl <| qN <| zW rfl (rfl) <| zB <| qR rfl <| qA rfl rfl rfl <| qN <| zK ?_
   exact zQ (.inr rfl) zA1 rfl (.of_eq (by rw [zO1 2]; congr 1; symm; first | (rw [show bareF 2 _ = false by simpa using h11]; rfl) | (rw [w40f]; simp; done) | (rw [c40f]; simp; done))) (.bool _) ⟨rfl, rfl⟩
  ·
   refine qF rfl rfl rfl zF1 <| qL rfl rfl rfl rfl ta28 rfl <| qE rfl rfl zO rfl <| qC rfl rfl rfl rfl rfl <| qP rfl rfl rfl rfl <| qM rfl rfl rfl ?_
   refine zG0 (fun h17 => ?_) (fun h17 => ?_)
   ·
    have w40f := decide_eq_false (by rw [zR] at h17; simp at h17; omega : ¬ w.length ≤ 40)
    refine qT rfl rfl rfl rfl <| qP rfl rfl rfl rfl <| qN <| zW rfl (rfl) <| zB <| qR rfl <| qA rfl rfl rfl <| qN <| zK ?_
    exact zQ (.inr rfl) zA1 rfl (.of_eq (by rw [zO1 2]; congr 1; symm; first | (rw [show bareF 2 _ = false by simpa using h11]; rfl) | (rw [w40f]; simp; done) | (rw [c40f]; simp; done))) (.bool _) ⟨rfl, rfl⟩
   ·
    have w40t := decide_eq_true (by rw [zR] at h17; simp at h17; omega : w.length ≤ 40)
    refine qF rfl rfl rfl zI1 <| qL rfl rfl rfl rfl ta27 rfl <| qE rfl rfl zM rfl <| qC rfl rfl rfl rfl rfl <| qP rfl rfl rfl rfl <| qN ?_
    refine zJ rfl (fun h22 => ?_) (fun h22 => ?_)
    ·
     have c40f := decide_eq_false (by rw [zC] at h22; simp at h22; omega : ¬ c.length ≤ 40)
     refine zB <| qR rfl <| qA rfl rfl rfl <| qN <| zK ?_
     exact zQ (.inr rfl) zA1 rfl (.of_eq (by rw [zO1 2]; congr 1; symm; first | (rw [show bareF 2 _ = false by simpa using h11]; rfl) | (rw [w40f]; simp; done) | (rw [c40f]; simp; done))) (.bool _) ⟨rfl, rfl⟩
    ·
     have c40t := decide_eq_true (by rw [zC] at h22; simp at h22; omega : c.length ≤ 40)
     refine zA0 <| zB <| qR rfl <| qO rfl <| zP2 rfl rfl rfl <| qO rfl <| zN0 rfl zm54 rfl rfl <| qO rfl <| zH0 rfl rfl rfl rfl sz54 rfl rfl (zA rfl) rfl <| qN <| zB <| zB <| qR rfl <| qF rfl rfl rfl zG2 <| qL rfl rfl rfl rfl ta3 rfl <| qN <| zB0 <| zB <| qR rfl <| qC rfl rfl rfl rfl rfl <| qA rfl rfl rfl <| qN <| zL rfl (rfl) <| zB <| qR rfl <| qC rfl rfl rfl rfl rfl ?_
     refine qA rfl rfl rfl <| qN <| zW rfl (rfl) <| zB <| qR rfl <| qF rfl rfl rfl zB3 <| qL rfl rfl rfl rfl ta25 rfl <| qC rfl rfl rfl rfl rfl <| qA rfl rfl rfl <| qN <| zK ?_
     exact zQ (.inr rfl) zA1 rfl (.of_eq (by rw [zO1 2]; rw [show bareF 2 _ = true by simpa using h11, w40t, c40t]; simp only [Bool.true_and, isVL, List.headD_cons, List.tail_cons]; rfl)) (.bool _) ⟨rfl, rfl⟩
 ·
  refine zU zC5 rfl zM5 (zA rfl) ?_
  refine zB <| qR rfl <| qB rfl rfl rfl rfl rfl <| qB rfl rfl rfl rfl rfl <| qA rfl rfl rfl <| qN <| zB <| zB <| qR rfl <| qF rfl rfl rfl zG2 <| qL rfl rfl rfl rfl ta3 rfl <| qL rfl rfl rfl rfl ta30 rfl ?_
  refine qX rfl rfl rfl rfl co81 (zM6 3 (by omega) n m s c w _) ?_
  refine qO rfl <| zG1 rfl rfl <| qM rfl rfl rfl ?_
  refine zG0 (fun h11 => ?_) (fun h11 => ?_)
  ·
   refine qT rfl rfl rfl rfl <| qP rfl rfl rfl rfl <| qM rfl rfl rfl <| qT rfl rfl rfl rfl <| qP rfl rfl rfl rfl <| qN <| zW rfl (rfl) <| zB <| qR rfl <| qA rfl rfl rfl <| qN <| zK ?_
   exact zQ (.inr rfl) zA1 rfl (.of_eq (by rw [zO1 3]; congr 1; symm; first | (rw [show bareF 3 _ = false by simpa using h11]; rfl) | (rw [w40f]; simp; done) | (rw [c40f]; simp; done))) (.bool _) ⟨rfl, rfl⟩
  ·
   refine qF rfl rfl rfl zF1 <| qL rfl rfl rfl rfl ta28 rfl <| qE rfl rfl zO rfl <| qC rfl rfl rfl rfl rfl <| qP rfl rfl rfl rfl <| qM rfl rfl rfl ?_
   refine zG0 (fun h17 => ?_) (fun h17 => ?_)
   ·
    have w40f := decide_eq_false (by rw [zR] at h17; simp at h17; omega : ¬ w.length ≤ 40)
    refine qT rfl rfl rfl rfl <| qP rfl rfl rfl rfl <| qN <| zW rfl (rfl) <| zB <| qR rfl <| qA rfl rfl rfl <| qN <| zK ?_
    exact zQ (.inr rfl) zA1 rfl (.of_eq (by rw [zO1 3]; congr 1; symm; first | (rw [show bareF 3 _ = false by simpa using h11]; rfl) | (rw [w40f]; simp; done) | (rw [c40f]; simp; done))) (.bool _) ⟨rfl, rfl⟩
   ·
    have w40t := decide_eq_true (by rw [zR] at h17; simp at h17; omega : w.length ≤ 40)
    refine qF rfl rfl rfl zI1 <| qL rfl rfl rfl rfl ta27 rfl <| qE rfl rfl zM rfl <| qC rfl rfl rfl rfl rfl <| qP rfl rfl rfl rfl <| qN ?_
    refine zJ rfl (fun h22 => ?_) (fun h22 => ?_)
    ·
     have c40f := decide_eq_false (by rw [zC] at h22; simp at h22; omega : ¬ c.length ≤ 40)
     refine zB <| qR rfl <| qA rfl rfl rfl <| qN <| zK ?_
     exact zQ (.inr rfl) zA1 rfl (.of_eq (by rw [zO1 3]; congr 1; symm; first | (rw [show bareF 3 _ = false by simpa using h11]; rfl) | (rw [w40f]; simp; done) | (rw [c40f]; simp; done))) (.bool _) ⟨rfl, rfl⟩
    ·
     have c40t := decide_eq_true (by rw [zC] at h22; simp at h22; omega : c.length ≤ 40)
     refine zA0 <| zB <| qR rfl <| qO rfl <| zP2 rfl rfl rfl <| qO rfl <| zN0 rfl zm54 rfl rfl <| qO rfl <| zH0 rfl rfl rfl rfl sz54 rfl rfl (zA rfl) rfl <| qN <| zB <| zB <| qR rfl <| qF rfl rfl rfl zG2 <| qL rfl rfl rfl rfl ta3 rfl <| qN <| zB0 <| zB <| qR rfl <| qC rfl rfl rfl rfl rfl <| qA rfl rfl rfl <| qN <| zL rfl (rfl) <| zB <| qR rfl <| qC rfl rfl rfl rfl rfl ?_
     refine qA rfl rfl rfl <| qN <| zL rfl (rfl) <| zB <| qR rfl <| qC rfl rfl rfl rfl rfl <| qA rfl rfl rfl <| qN <| zW rfl (rfl) <| zB <| qR rfl <| qF rfl rfl rfl zR1 <| qL rfl rfl rfl rfl ta26 rfl ?_
     refine qX rfl rfl rfl rfl co83 (isRow_spec s _) ?_
     refine qA rfl rfl rfl <| qN <| zK ?_
     exact zQ (.inr rfl) zA1 rfl (.of_eq (by rw [zO1 3]; rw [show bareF 3 _ = true by simpa using h11, w40t, c40t]; simp only [Bool.true_and, isVL, List.headD_cons, List.tail_cons]; rfl)) (.bool _) ⟨rfl, rfl⟩
 ·
  obtain ⟨⟨k1, i1⟩, rfl⟩ := zT5 hd.1 (by decide)
  have ih1 := ih (.mk k1 i1) (hd.2 _ (by simp))
  refine zU zC5 rfl zM5 (zA rfl) ?_
  refine zB <| qR rfl <| qB rfl rfl rfl rfl rfl <| qB rfl rfl rfl rfl rfl <| qA rfl rfl rfl <| qN <| zB <| zB <| qR rfl <| qF rfl rfl rfl zG2 <| qL rfl rfl rfl rfl ta3 rfl <| qL rfl rfl rfl rfl ta30 rfl ?_
  refine qX rfl rfl rfl rfl co81 (zM6 4 (by omega) n m s c w _) ?_
  refine qO rfl <| zG1 rfl rfl <| qM rfl rfl rfl ?_
  refine zG0 (fun h11 => ?_) (fun h11 => ?_)
  ·
   refine qT rfl rfl rfl rfl <| qP rfl rfl rfl rfl <| qM rfl rfl rfl <| qT rfl rfl rfl rfl <| qP rfl rfl rfl rfl <| qN <| zW rfl (rfl) <| zB <| qR rfl <| qA rfl rfl rfl <| qN <| zK ?_
   exact zQ (.inr rfl) zA1 rfl (.of_eq (by rw [zO1 4]; congr 1; symm; first | (rw [show bareF 4 _ = false by simpa using h11]; rfl) | (rw [w40f]; simp; done) | (rw [c40f]; simp; done))) (.bool _) ⟨rfl, rfl⟩
  ·
   refine qF rfl rfl rfl zF1 <| qL rfl rfl rfl rfl ta28 rfl <| qE rfl rfl zO rfl <| qC rfl rfl rfl rfl rfl <| qP rfl rfl rfl rfl <| qM rfl rfl rfl ?_
   refine zG0 (fun h17 => ?_) (fun h17 => ?_)
   ·
    have w40f := decide_eq_false (by rw [zR] at h17; simp at h17; omega : ¬ w.length ≤ 40)
    refine qT rfl rfl rfl rfl <| qP rfl rfl rfl rfl <| qN <| zW rfl (rfl) <| zB <| qR rfl <| qA rfl rfl rfl <| qN <| zK ?_
    exact zQ (.inr rfl) zA1 rfl (.of_eq (by rw [zO1 4]; congr 1; symm; first | (rw [show bareF 4 _ = false by simpa using h11]; rfl) | (rw [w40f]; simp; done) | (rw [c40f]; simp; done))) (.bool _) ⟨rfl, rfl⟩
   ·
    have w40t := decide_eq_true (by rw [zR] at h17; simp at h17; omega : w.length ≤ 40)
    refine qF rfl rfl rfl zI1 <| qL rfl rfl rfl rfl ta27 rfl <| qE rfl rfl zM rfl <| qC rfl rfl rfl rfl rfl <| qP rfl rfl rfl rfl <| qN ?_
    refine zJ rfl (fun h22 => ?_) (fun h22 => ?_)
    ·
     have c40f := decide_eq_false (by rw [zC] at h22; simp at h22; omega : ¬ c.length ≤ 40)
     refine zB <| qR rfl <| qA rfl rfl rfl <| qN <| zK ?_
     exact zQ (.inr rfl) zA1 rfl (.of_eq (by rw [zO1 4]; congr 1; symm; first | (rw [show bareF 4 _ = false by simpa using h11]; rfl) | (rw [w40f]; simp; done) | (rw [c40f]; simp; done))) (.bool _) ⟨rfl, rfl⟩
    ·
     have c40t := decide_eq_true (by rw [zC] at h22; simp at h22; omega : c.length ≤ 40)
     refine zA0 <| zB <| qR rfl <| qO rfl <| zP2 rfl rfl rfl <| qO rfl <| zN0 rfl zm54 rfl rfl <| qO rfl <| zH0 rfl rfl rfl rfl sz54 rfl rfl (zA rfl) rfl <| qN <| zB <| zB <| qR rfl <| qF rfl rfl rfl zG2 <| qL rfl rfl rfl rfl ta3 rfl <| qN <| zB0 <| zB <| qR rfl <| qC rfl rfl rfl rfl rfl <| qA rfl rfl rfl <| qN <| zL rfl (rfl) <| zB <| qR rfl <| qC rfl rfl rfl rfl rfl ?_
     refine qA rfl rfl rfl <| qN <| zL rfl (rfl) <| zB <| qR rfl <| qC rfl rfl rfl rfl rfl <| qA rfl rfl rfl <| qN <| zL rfl (rfl) <| zB <| qR rfl <| qC rfl rfl rfl rfl rfl <| qA rfl rfl rfl <| qN <| zW rfl (rfl) <| zB <| qR rfl <| qF rfl rfl rfl zR1 <| qL rfl rfl rfl rfl ta26 rfl ?_
     refine qX rfl rfl rfl rfl co83 (isRow_spec s _) ?_
     refine qM rfl rfl rfl ?_
     refine zG0 (fun h43 => ?_) (fun h43 => ?_)
     ·
      refine qF rfl rfl rfl zR1 <| qL rfl rfl rfl rfl ta26 rfl <| qE rfl rfl zX rfl <| qF rfl rfl rfl zF1 <| qL rfl rfl rfl rfl ta28 rfl <| qE rfl rfl zO rfl <| qC rfl rfl rfl rfl rfl <| qP rfl rfl rfl rfl <| qM rfl rfl rfl ?_
      refine zG0 (fun h52 => ?_) (fun h52 => ?_)
      ·
       have hsl : s.length = w.length := by rw [zC, zR] at h52; simp at h52; omega
       refine qF rfl rfl rfl zF1 <| qL rfl rfl rfl rfl ta28 rfl <| qO rfl <| zP2 rfl rfl rfl ?_
       refine qX rfl rfl rfl rfl co84 (vContains_spec _ w (fun x => !isVF (.mk k1 i1) x || noneF (.mk k1 i1) x) _ [] [.ref (S.length + 2) 0, .ref (S.length + 0) 0] co85 (fun x hx X => is2v_spec 4 k1 i1 [] (isVF (.mk k1 i1)) ih1 x (hvs x hx) _ _ _ (zI4 (k := 2) rfl) (zI4 (k := 0) rfl))) ?_
       refine qO rfl <| zG1 rfl rfl <| qP rfl rfl rfl rfl <| qA rfl rfl rfl <| qN <| zK ?_
       exact zQ (.inr rfl) zA1 rfl (.of_eq (by rw [zO1 4]; rw [show bareF 4 _ = true by simpa using h11, w40t, c40t]; simp only [Bool.true_and, isVL, List.headD_cons, List.tail_cons]; congr 1; rw [zF]; simp_all [zR, any_all])) (.bool _) ⟨rfl, rfl⟩
      ·
       have hsl : ¬ s.length = w.length := by rw [zC, zR] at h52; simp at h52; omega
       refine qT rfl rfl rfl rfl <| qS rfl <| qP rfl rfl rfl rfl <| qA rfl rfl rfl <| qN <| zK ?_
       exact zQ (.inr rfl) zA1 rfl (.of_eq (by rw [zO1 4]; rw [show bareF 4 _ = true by simpa using h11, w40t, c40t]; simp only [Bool.true_and, isVL, List.headD_cons, List.tail_cons]; congr 1; rw [zF]; simp_all [zR, any_all])) (.bool _) ⟨rfl, rfl⟩
     ·
      refine qT rfl rfl rfl rfl <| qS rfl <| qS rfl <| qS rfl <| qP rfl rfl rfl rfl <| qM rfl rfl rfl <| qT rfl rfl rfl rfl <| qS rfl <| qP rfl rfl rfl rfl <| qA rfl rfl rfl <| qN <| zK ?_
      exact zQ (.inr rfl) zA1 rfl (.of_eq (by rw [zO1 4]; rw [show bareF 4 _ = true by simpa using h11, w40t, c40t]; simp only [Bool.true_and, isVL, List.headD_cons, List.tail_cons]; congr 1; rw [zF]; simp_all [zR, any_all])) (.bool _) ⟨rfl, rfl⟩
 ·
  obtain ⟨⟨k1, i1⟩, ⟨k2, i2⟩, rfl⟩ := two_of hd.1
  have ih1 := ih (.mk k1 i1) (hd.2 _ (by simp))
  have ih2 := ih (.mk k2 i2) (hd.2 _ (by simp))
  refine zU zC5 rfl zM5 (zA rfl) ?_
  refine zB <| qR rfl <| qB rfl rfl rfl rfl rfl <| qB rfl rfl rfl rfl rfl <| qA rfl rfl rfl <| qN <| zB <| zB <| qR rfl <| qF rfl rfl rfl zG2 <| qL rfl rfl rfl rfl ta3 rfl <| qL rfl rfl rfl rfl ta30 rfl ?_
  refine qX rfl rfl rfl rfl co81 (zM6 5 (by omega) n m s c w _) ?_
  refine qO rfl <| zG1 rfl rfl <| qM rfl rfl rfl ?_
  refine zG0 (fun h11 => ?_) (fun h11 => ?_)
  ·
   refine qT rfl rfl rfl rfl <| qP rfl rfl rfl rfl <| qM rfl rfl rfl <| qT rfl rfl rfl rfl <| qP rfl rfl rfl rfl <| qN <| zW rfl (rfl) <| zB <| qR rfl <| qA rfl rfl rfl <| qN <| zK ?_
   exact zQ (.inr rfl) zA1 rfl (.of_eq (by rw [zO1 5]; congr 1; symm; first | (rw [show bareF 5 _ = false by simpa using h11]; rfl) | (rw [w40f]; simp; done) | (rw [c40f]; simp; done))) (.bool _) ⟨rfl, rfl⟩
  ·
   refine qF rfl rfl rfl zF1 <| qL rfl rfl rfl rfl ta28 rfl <| qE rfl rfl zO rfl <| qC rfl rfl rfl rfl rfl <| qP rfl rfl rfl rfl <| qM rfl rfl rfl ?_
   refine zG0 (fun h17 => ?_) (fun h17 => ?_)
   ·
    have w40f := decide_eq_false (by rw [zR] at h17; simp at h17; omega : ¬ w.length ≤ 40)
    refine qT rfl rfl rfl rfl <| qP rfl rfl rfl rfl <| qN <| zW rfl (rfl) <| zB <| qR rfl <| qA rfl rfl rfl <| qN <| zK ?_
    exact zQ (.inr rfl) zA1 rfl (.of_eq (by rw [zO1 5]; congr 1; symm; first | (rw [show bareF 5 _ = false by simpa using h11]; rfl) | (rw [w40f]; simp; done) | (rw [c40f]; simp; done))) (.bool _) ⟨rfl, rfl⟩
   ·
    have w40t := decide_eq_true (by rw [zR] at h17; simp at h17; omega : w.length ≤ 40)
    refine qF rfl rfl rfl zI1 <| qL rfl rfl rfl rfl ta27 rfl <| qE rfl rfl zM rfl <| qC rfl rfl rfl rfl rfl <| qP rfl rfl rfl rfl <| qN ?_
    refine zJ rfl (fun h22 => ?_) (fun h22 => ?_)
    ·
     have c40f := decide_eq_false (by rw [zC] at h22; simp at h22; omega : ¬ c.length ≤ 40)
     refine zB <| qR rfl <| qA rfl rfl rfl <| qN <| zK ?_
     exact zQ (.inr rfl) zA1 rfl (.of_eq (by rw [zO1 5]; congr 1; symm; first | (rw [show bareF 5 _ = false by simpa using h11]; rfl) | (rw [w40f]; simp; done) | (rw [c40f]; simp; done))) (.bool _) ⟨rfl, rfl⟩
    ·
     have c40t := decide_eq_true (by rw [zC] at h22; simp at h22; omega : c.length ≤ 40)
     refine zA0 <| zB <| qR rfl <| qO rfl <| zP2 rfl rfl rfl <| qO rfl <| zN0 rfl zm54 rfl rfl <| qO rfl <| zH0 rfl rfl rfl rfl sz54 rfl rfl (zA rfl) rfl <| qN <| zB <| zB <| qR rfl <| qF rfl rfl rfl zG2 <| qL rfl rfl rfl rfl ta3 rfl <| qN <| zB0 <| zB <| qR rfl <| qC rfl rfl rfl rfl rfl <| qA rfl rfl rfl <| qN <| zL rfl (rfl) <| zB <| qR rfl <| qC rfl rfl rfl rfl rfl ?_
     refine qA rfl rfl rfl <| qN <| zL rfl (rfl) <| zB <| qR rfl <| qC rfl rfl rfl rfl rfl <| qA rfl rfl rfl <| qN <| zL rfl (rfl) <| zB <| qR rfl <| qC rfl rfl rfl rfl rfl <| qA rfl rfl rfl <| qN <| zL rfl (rfl) <| zB <| qR rfl <| qC rfl rfl rfl rfl rfl <| qA rfl rfl rfl <| qN <| zW rfl (rfl) <| zB ?_
     refine zU0 [] [_] mo (by decide) rfl rfl rfl rfl ?_
     refine dO rfl rfl rfl (zE rfl rfl zF1 ⟨rfl, rfl⟩) <| dO rfl rfl rfl (zD0 rfl rfl rfl ta28 rfl ⟨rfl, rfl⟩) <| dO rfl rfl rfl (zT1 rfl zO rfl ⟨rfl, rfl⟩) <| dO rfl rfl rfl (zE2 rfl rfl rfl rfl ⟨rfl, rfl⟩) <| dO rfl rfl rfl (zV rfl rfl ⟨rfl, rfl⟩) ?_
     refine zH2 (fun h65 => ?_) (fun h65 => ?_)
     ·
      obtain ⟨⟨n1, m1, s1, c1, w1⟩, ⟨n2, m2, s2, c2, w2⟩, rfl⟩ := two_of' (by rw [zR] at h65; simp at h65; omega : w.length = 2)
      refine dO rfl rfl rfl (zE rfl rfl zU2 ⟨rfl, rfl⟩) <| dO rfl rfl rfl (zD0 rfl rfl rfl ta22 rfl ⟨rfl, rfl⟩) <| dO rfl rfl rfl (zG rfl zR0 sz24 (by decide) rfl rfl rfl (show _ = some (encS (.mk k1 i1)) from rfl) ⟨rfl, rfl⟩) ?_
      refine dO rfl rfl rfl (zH rfl rfl ta24 rfl ⟨rfl, rfl⟩) <| dO rfl rfl rfl (zE rfl rfl zF1 ⟨rfl, rfl⟩) <| dO rfl rfl rfl (zD0 rfl rfl rfl ta28 rfl ⟨rfl, rfl⟩) <| dO rfl rfl rfl (zG rfl zO sz30 (by decide) rfl rfl rfl (show _ = some (encV (.mk n1 m1 s1 c1 w1)) from rfl) ⟨rfl, rfl⟩) ?_
      refine dO rfl rfl rfl (zH rfl rfl ta30 rfl ⟨rfl, rfl⟩) <| zS rfl rfl (.cons (zH1 rfl rfl rfl co49 (ih1 (.mk n1 m1 s1 c1 w1) (hvs _ (by simp)) _)) .nil) ?_
      refine dO rfl rfl rfl (zE1 rfl rfl rfl ⟨rfl, rfl⟩) <| dO rfl rfl rfl (zV rfl rfl ⟨rfl, rfl⟩) ?_
      refine zH2 (fun h76 => ?_) (fun h76 => ?_)
      ·
       refine dO rfl rfl rfl (zE rfl rfl zU2 ⟨rfl, rfl⟩) <| dO rfl rfl rfl (zD0 rfl rfl rfl ta22 rfl ⟨rfl, rfl⟩) <| dO rfl rfl rfl (zG rfl zR0 sz24 (by decide) rfl rfl rfl (show _ = some (encS (.mk k2 i2)) from rfl) ⟨rfl, rfl⟩) ?_
       refine dO rfl rfl rfl (zH rfl rfl ta24 rfl ⟨rfl, rfl⟩) <| dO rfl rfl rfl (zE rfl rfl zF1 ⟨rfl, rfl⟩) <| dO rfl rfl rfl (zD0 rfl rfl rfl ta28 rfl ⟨rfl, rfl⟩) <| dO rfl rfl rfl (zG rfl zO sz30 (by decide) rfl rfl rfl (show _ = some (encV (.mk n2 m2 s2 c2 w2)) from rfl) ⟨rfl, rfl⟩) ?_
       refine dO rfl rfl rfl (zH rfl rfl ta30 rfl ⟨rfl, rfl⟩) <| zS rfl rfl (.cons (zH1 rfl rfl rfl co49 (ih2 (.mk n2 m2 s2 c2 w2) (hvs _ (by simp)) _)) .nil) ?_
       refine dO rfl rfl rfl (zE1 rfl rfl rfl ⟨rfl, rfl⟩) <| dO rfl rfl rfl (zB1 rfl rfl ⟨rfl, rfl⟩) <| zL0 <| zK ?_
       exact zQ (.inr rfl) zA1 rfl (.of_eq (by rw [zO1 5]; rw [show bareF 5 _ = true by simpa using h11, w40t, c40t]; simp only [Bool.true_and, isVL, List.headD_cons, List.tail_cons]; first | (congr 1; symm; rw [if_neg (by decide), if_neg (by decide), if_neg (by decide), if_neg (by decide), if_pos True.intro]; exact hm2) | (congr 1; rw [zF]; simp_all [zR]))) (.bool _) ⟨rfl, rfl⟩
      ·
       refine dS rfl rfl <| dS rfl rfl <| dS rfl rfl <| dS rfl rfl <| dS rfl rfl <| dS rfl rfl <| dS rfl rfl <| dS rfl rfl <| dS rfl rfl <| dO rfl rfl rfl (zE1 rfl rfl rfl ⟨rfl, rfl⟩) <| dO rfl rfl rfl (zB1 rfl rfl ⟨rfl, rfl⟩) <| zL0 <| zK ?_
       exact zQ (.inr rfl) zA1 rfl (.of_eq (by rw [zO1 5]; rw [show bareF 5 _ = true by simpa using h11, w40t, c40t]; simp only [Bool.true_and, isVL, List.headD_cons, List.tail_cons]; first | (congr 1; symm; rw [if_neg (by decide), if_neg (by decide), if_neg (by decide), if_neg (by decide), if_pos True.intro]; exact hm2) | (congr 1; rw [zF]; simp_all [zR]))) (.bool _) ⟨rfl, rfl⟩
     ·
      have hm2 := match2_no (f := isVF (.mk k1 i1)) (g := isVF (.mk k2 i2)) (by rw [zR] at h65; simp at h65; omega : w.length ≠ 2)
      refine dS rfl rfl <| dS rfl rfl <| dS rfl rfl <| dS rfl rfl <| dS rfl rfl <| dS rfl rfl <| dS rfl rfl <| dS rfl rfl <| dS rfl rfl <| dO rfl rfl rfl (zE1 rfl rfl rfl ⟨rfl, rfl⟩) <| dO rfl rfl rfl (zV rfl rfl ⟨rfl, rfl⟩) <| dS rfl rfl <| dS rfl rfl <| dS rfl rfl <| dS rfl rfl <| dS rfl rfl <| dS rfl rfl <| dS rfl rfl <| dS rfl rfl <| dS rfl rfl <| dO rfl rfl rfl (zE1 rfl rfl rfl ⟨rfl, rfl⟩) <| dO rfl rfl rfl (zB1 rfl rfl ⟨rfl, rfl⟩) <| zL0 <| zK ?_
      exact zQ (.inr rfl) zA1 rfl (.of_eq (by rw [zO1 5]; rw [show bareF 5 _ = true by simpa using h11, w40t, c40t]; simp only [Bool.true_and, isVL, List.headD_cons, List.tail_cons]; first | (congr 1; symm; rw [if_neg (by decide), if_neg (by decide), if_neg (by decide), if_neg (by decide), if_pos True.intro]; exact hm2) | (congr 1; rw [zF]; simp_all [zR]))) (.bool _) ⟨rfl, rfl⟩
 ·
  refine zU zC5 rfl zM5 (zA rfl) ?_
  refine zB <| qR rfl <| qB rfl rfl rfl rfl rfl <| qB rfl rfl rfl rfl rfl <| qA rfl rfl rfl <| qN <| zB <| zB <| qR rfl <| qF rfl rfl rfl zG2 <| qL rfl rfl rfl rfl ta3 rfl <| qL rfl rfl rfl rfl ta30 rfl ?_
  refine qX rfl rfl rfl rfl co81 (zM6 6 (by omega) n m s c w _) ?_
  refine qO rfl <| zG1 rfl rfl <| qM rfl rfl rfl ?_
  refine zG0 (fun h11 => ?_) (fun h11 => ?_)
  ·
   refine qT rfl rfl rfl rfl <| qP rfl rfl rfl rfl <| qM rfl rfl rfl <| qT rfl rfl rfl rfl <| qP rfl rfl rfl rfl <| qN <| zW rfl (rfl) <| zB <| qR rfl <| qA rfl rfl rfl <| qN <| zK ?_
   exact zQ (.inr rfl) zA1 rfl (.of_eq (by rw [zO1 6]; congr 1; symm; first | (rw [show bareF 6 _ = false by simpa using h11]; rfl) | (rw [w40f]; simp; done) | (rw [c40f]; simp; done))) (.bool _) ⟨rfl, rfl⟩
  ·
   refine qF rfl rfl rfl zF1 <| qL rfl rfl rfl rfl ta28 rfl <| qE rfl rfl zO rfl <| qC rfl rfl rfl rfl rfl <| qP rfl rfl rfl rfl <| qM rfl rfl rfl ?_
   refine zG0 (fun h17 => ?_) (fun h17 => ?_)
   ·
    have w40f := decide_eq_false (by rw [zR] at h17; simp at h17; omega : ¬ w.length ≤ 40)
    refine qT rfl rfl rfl rfl <| qP rfl rfl rfl rfl <| qN <| zW rfl (rfl) <| zB <| qR rfl <| qA rfl rfl rfl <| qN <| zK ?_
    exact zQ (.inr rfl) zA1 rfl (.of_eq (by rw [zO1 6]; congr 1; symm; first | (rw [show bareF 6 _ = false by simpa using h11]; rfl) | (rw [w40f]; simp; done) | (rw [c40f]; simp; done))) (.bool _) ⟨rfl, rfl⟩
   ·
    have w40t := decide_eq_true (by rw [zR] at h17; simp at h17; omega : w.length ≤ 40)
    refine qF rfl rfl rfl zI1 <| qL rfl rfl rfl rfl ta27 rfl <| qE rfl rfl zM rfl <| qC rfl rfl rfl rfl rfl <| qP rfl rfl rfl rfl <| qN ?_
    refine zJ rfl (fun h22 => ?_) (fun h22 => ?_)
    ·
     have c40f := decide_eq_false (by rw [zC] at h22; simp at h22; omega : ¬ c.length ≤ 40)
     refine zB <| qR rfl <| qA rfl rfl rfl <| qN <| zK ?_
     exact zQ (.inr rfl) zA1 rfl (.of_eq (by rw [zO1 6]; congr 1; symm; first | (rw [show bareF 6 _ = false by simpa using h11]; rfl) | (rw [w40f]; simp; done) | (rw [c40f]; simp; done))) (.bool _) ⟨rfl, rfl⟩
    ·
     have c40t := decide_eq_true (by rw [zC] at h22; simp at h22; omega : c.length ≤ 40)
     refine zA0 <| zB <| qR rfl <| qO rfl <| zP2 rfl rfl rfl <| qO rfl <| zN0 rfl zm54 rfl rfl <| qO rfl <| zH0 rfl rfl rfl rfl sz54 rfl rfl (zA rfl) rfl <| qN <| zB <| zB <| qR rfl <| qF rfl rfl rfl zG2 <| qL rfl rfl rfl rfl ta3 rfl <| qN <| zB0 <| zB <| qR rfl <| qC rfl rfl rfl rfl rfl <| qA rfl rfl rfl <| qN <| zL rfl (rfl) <| zB <| qR rfl <| qC rfl rfl rfl rfl rfl ?_
     refine qA rfl rfl rfl <| qN <| zL rfl (rfl) <| zB <| qR rfl <| qC rfl rfl rfl rfl rfl <| qA rfl rfl rfl <| qN <| zL rfl (rfl) <| zB <| qR rfl <| qC rfl rfl rfl rfl rfl <| qA rfl rfl rfl <| qN <| zL rfl (rfl) <| zB <| qR rfl <| qC rfl rfl rfl rfl rfl <| qA rfl rfl rfl <| qN <| zL rfl (rfl) <| zB <| qR rfl ?_
     refine qC rfl rfl rfl rfl rfl <| qA rfl rfl rfl <| qN <| zW rfl (rfl) <| zB <| qR rfl <| qL rfl rfl rfl rfl ta30 rfl ?_
     refine qX rfl rfl rfl rfl co87 (isLast_spec n m s c w hv.1.1 hv.2.1.1 _) ?_
     refine qA rfl rfl rfl <| qN <| zK ?_
     exact zQ (.inr rfl) zA1 rfl (.of_eq (by rw [zO1 6]; rw [show bareF 6 _ = true by simpa using h11, w40t, c40t]; simp only [Bool.true_and, isVL, List.headD_cons, List.tail_cons]; rfl)) (.bool _) ⟨rfl, rfl⟩
 ·
  refine zU zC5 rfl zM5 (zA rfl) ?_
  refine zB <| qR rfl <| qB rfl rfl rfl rfl rfl <| qB rfl rfl rfl rfl rfl <| qA rfl rfl rfl <| qN <| zB <| zB <| qR rfl <| qF rfl rfl rfl zG2 <| qL rfl rfl rfl rfl ta3 rfl <| qL rfl rfl rfl rfl ta30 rfl ?_
  refine qX rfl rfl rfl rfl co81 (zM6 7 (by omega) n m s c w _) ?_
  refine qO rfl <| zG1 rfl rfl <| qM rfl rfl rfl ?_
  refine zG0 (fun h11 => ?_) (fun h11 => ?_)
  ·
   refine qT rfl rfl rfl rfl <| qP rfl rfl rfl rfl <| qM rfl rfl rfl <| qT rfl rfl rfl rfl <| qP rfl rfl rfl rfl <| qN <| zW rfl (rfl) <| zB <| qR rfl <| qA rfl rfl rfl <| qN <| zK ?_
   exact zQ (.inr rfl) zA1 rfl (.of_eq (by rw [zO1 7]; congr 1; symm; first | (rw [show bareF 7 _ = false by simpa using h11]; rfl) | (rw [w40f]; simp; done) | (rw [c40f]; simp; done))) (.bool _) ⟨rfl, rfl⟩
  ·
   refine qF rfl rfl rfl zF1 <| qL rfl rfl rfl rfl ta28 rfl <| qE rfl rfl zO rfl <| qC rfl rfl rfl rfl rfl <| qP rfl rfl rfl rfl <| qM rfl rfl rfl ?_
   refine zG0 (fun h17 => ?_) (fun h17 => ?_)
   ·
    have w40f := decide_eq_false (by rw [zR] at h17; simp at h17; omega : ¬ w.length ≤ 40)
    refine qT rfl rfl rfl rfl <| qP rfl rfl rfl rfl <| qN <| zW rfl (rfl) <| zB <| qR rfl <| qA rfl rfl rfl <| qN <| zK ?_
    exact zQ (.inr rfl) zA1 rfl (.of_eq (by rw [zO1 7]; congr 1; symm; first | (rw [show bareF 7 _ = false by simpa using h11]; rfl) | (rw [w40f]; simp; done) | (rw [c40f]; simp; done))) (.bool _) ⟨rfl, rfl⟩
   ·
    have w40t := decide_eq_true (by rw [zR] at h17; simp at h17; omega : w.length ≤ 40)
    refine qF rfl rfl rfl zI1 <| qL rfl rfl rfl rfl ta27 rfl <| qE rfl rfl zM rfl <| qC rfl rfl rfl rfl rfl <| qP rfl rfl rfl rfl <| qN ?_
    refine zJ rfl (fun h22 => ?_) (fun h22 => ?_)
    ·
     have c40f := decide_eq_false (by rw [zC] at h22; simp at h22; omega : ¬ c.length ≤ 40)
     refine zB <| qR rfl <| qA rfl rfl rfl <| qN <| zK ?_
     exact zQ (.inr rfl) zA1 rfl (.of_eq (by rw [zO1 7]; congr 1; symm; first | (rw [show bareF 7 _ = false by simpa using h11]; rfl) | (rw [w40f]; simp; done) | (rw [c40f]; simp; done))) (.bool _) ⟨rfl, rfl⟩
    ·
     have c40t := decide_eq_true (by rw [zC] at h22; simp at h22; omega : c.length ≤ 40)
     refine zA0 <| zB <| qR rfl <| qO rfl <| zP2 rfl rfl rfl <| qO rfl <| zN0 rfl zm54 rfl rfl <| qO rfl <| zH0 rfl rfl rfl rfl sz54 rfl rfl (zA rfl) rfl <| qN <| zB <| zB <| qR rfl <| qF rfl rfl rfl zG2 <| qL rfl rfl rfl rfl ta3 rfl <| qN <| zB0 <| zB <| qR rfl <| qC rfl rfl rfl rfl rfl <| qA rfl rfl rfl <| qN <| zL rfl (rfl) <| zB <| qR rfl <| qC rfl rfl rfl rfl rfl ?_
     refine qA rfl rfl rfl <| qN <| zL rfl (rfl) <| zB <| qR rfl <| qC rfl rfl rfl rfl rfl <| qA rfl rfl rfl <| qN <| zL rfl (rfl) <| zB <| qR rfl <| qC rfl rfl rfl rfl rfl <| qA rfl rfl rfl <| qN <| zL rfl (rfl) <| zB <| qR rfl <| qC rfl rfl rfl rfl rfl <| qA rfl rfl rfl <| qN <| zL rfl (rfl) <| zB <| qR rfl ?_
     refine qC rfl rfl rfl rfl rfl <| qA rfl rfl rfl <| qN <| zL rfl (rfl) <| zB <| qR rfl <| qC rfl rfl rfl rfl rfl <| qA rfl rfl rfl <| qN <| zW rfl (rfl) <| zB <| qR rfl <| qF rfl rfl rfl zI1 <| qL rfl rfl rfl rfl ta27 rfl <| qE rfl rfl zM rfl <| qC rfl rfl rfl rfl rfl <| qM rfl rfl rfl ?_
     refine zG0 (fun h97 => ?_) (fun h97 => ?_)
     ·
      refine qT rfl rfl rfl rfl <| qT rfl rfl rfl rfl <| qT rfl rfl rfl rfl <| qT rfl rfl rfl rfl <| qS rfl <| qS rfl <| qS rfl <| qP rfl rfl rfl rfl <| qA rfl rfl rfl <| qN <| zK ?_
      exact zQ (.inr rfl) zA1 rfl (.of_eq (by rw [zO1 7]; rw [show bareF 7 _ = true by simpa using h11, w40t, c40t]; simp only [Bool.true_and, isVL, List.headD_cons, List.tail_cons]; first | (congr 1; symm; rw [if_neg (by decide), if_neg (by decide), if_neg (by decide), if_neg (by decide), if_neg (by decide), if_neg (by decide), if_pos True.intro]; exact hm2) | (congr 1; rw [zF]; simp_all))) (.bool _) ⟨rfl, rfl⟩
     ·
      have hc0 : ¬ c = [] := by simpa using h97
      refine qF rfl rfl rfl zI1 <| qL rfl rfl rfl rfl ta27 rfl <| qE rfl rfl zM rfl <| qC rfl rfl rfl rfl rfl <| qM rfl rfl rfl ?_
      refine zG0 (fun h102 => ?_) (fun h102 => ?_)
      ·
       obtain ⟨c0, rfl⟩ := one_of (by rw [zC] at h102; simp at h102; omega : c.length = 1)
       refine qF rfl rfl rfl zI1 <| qL rfl rfl rfl rfl ta27 rfl <| qO rfl <| zG rfl zM sz60 (by decide) rfl rfl rfl (show _ = some (encC c0) from rfl) ?_
       refine qO rfl <| zH rfl rfl ta60 rfl <| qE rfl rfl zP rfl <| qC rfl rfl rfl rfl rfl <| qP rfl rfl rfl rfl <| qM rfl rfl rfl ?_
       refine zG0 (fun h110 => ?_) (fun h110 => ?_)
       ·
        refine qF rfl rfl rfl zI1 <| qL rfl rfl rfl rfl ta27 rfl <| qO rfl <| zG rfl zM sz60 (by decide) rfl rfl rfl (show _ = some (encC c0) from rfl) ?_
        refine qO rfl <| zH rfl rfl ta60 rfl ?_
        refine qX rfl rfl rfl rfl co88 (clkIs_spec c0 _) ?_
        refine qP rfl rfl rfl rfl <| qP rfl rfl rfl rfl <| qA rfl rfl rfl <| qN <| zK ?_
        exact zQ (.inr rfl) zA1 rfl (.of_eq (by rw [zO1 7]; rw [show bareF 7 _ = true by simpa using h11, w40t, c40t]; simp only [Bool.true_and, isVL, List.headD_cons, List.tail_cons]; first | (congr 1; symm; rw [if_neg (by decide), if_neg (by decide), if_neg (by decide), if_neg (by decide), if_neg (by decide), if_neg (by decide), if_pos True.intro]; exact hm2) | (congr 1; rw [zF]; simp_all))) (.bool _) ⟨rfl, rfl⟩
       ·
        refine qT rfl rfl rfl rfl <| qS rfl <| qP rfl rfl rfl rfl <| qP rfl rfl rfl rfl <| qA rfl rfl rfl <| qN <| zK ?_
        exact zQ (.inr rfl) zA1 rfl (.of_eq (by rw [zO1 7]; rw [show bareF 7 _ = true by simpa using h11, w40t, c40t]; simp only [Bool.true_and, isVL, List.headD_cons, List.tail_cons]; first | (congr 1; symm; rw [if_neg (by decide), if_neg (by decide), if_neg (by decide), if_neg (by decide), if_neg (by decide), if_neg (by decide), if_pos True.intro]; exact hm2) | (congr 1; rw [zF]; simp_all))) (.bool _) ⟨rfl, rfl⟩
      ·
       have hm2 := match1_no hc0 (by rw [zC] at h102; simp at h102; omega : c.length ≠ 1)
       refine qT rfl rfl rfl rfl <| qS rfl <| qS rfl <| qP rfl rfl rfl rfl <| qM rfl rfl rfl <| qT rfl rfl rfl rfl <| qS rfl <| qP rfl rfl rfl rfl <| qP rfl rfl rfl rfl <| qA rfl rfl rfl <| qN <| zK ?_
       exact zQ (.inr rfl) zA1 rfl (.of_eq (by rw [zO1 7]; rw [show bareF 7 _ = true by simpa using h11, w40t, c40t]; simp only [Bool.true_and, isVL, List.headD_cons, List.tail_cons]; first | (congr 1; symm; rw [if_neg (by decide), if_neg (by decide), if_neg (by decide), if_neg (by decide), if_neg (by decide), if_neg (by decide), if_pos True.intro]; exact hm2) | (congr 1; rw [zF]; simp_all))) (.bool _) ⟨rfl, rfl⟩
 ·
  obtain ⟨⟨k1, i1⟩, rfl⟩ := zT5 hd.1 (by decide)
  have ih1 := ih (.mk k1 i1) (hd.2 _ (by simp))
  refine zU zC5 rfl zM5 (zA rfl) ?_
  refine zB <| qR rfl <| qB rfl rfl rfl rfl rfl <| qB rfl rfl rfl rfl rfl <| qA rfl rfl rfl <| qN <| zB <| zB <| qR rfl <| qF rfl rfl rfl zG2 <| qL rfl rfl rfl rfl ta3 rfl <| qL rfl rfl rfl rfl ta30 rfl ?_
  refine qX rfl rfl rfl rfl co81 (zM6 8 (by omega) n m s c w _) ?_
  refine qO rfl <| zG1 rfl rfl <| qM rfl rfl rfl ?_
  refine zG0 (fun h11 => ?_) (fun h11 => ?_)
  ·
   refine qT rfl rfl rfl rfl <| qP rfl rfl rfl rfl <| qM rfl rfl rfl <| qT rfl rfl rfl rfl <| qP rfl rfl rfl rfl <| qN <| zW rfl (rfl) <| zB <| qR rfl <| qA rfl rfl rfl <| qN <| zK ?_
   exact zQ (.inr rfl) zA1 rfl (.of_eq (by rw [zO1 8]; congr 1; symm; first | (rw [show bareF 8 _ = false by simpa using h11]; rfl) | (rw [w40f]; simp; done) | (rw [c40f]; simp; done))) (.bool _) ⟨rfl, rfl⟩
  ·
   refine qF rfl rfl rfl zF1 <| qL rfl rfl rfl rfl ta28 rfl <| qE rfl rfl zO rfl <| qC rfl rfl rfl rfl rfl <| qP rfl rfl rfl rfl <| qM rfl rfl rfl ?_
   refine zG0 (fun h17 => ?_) (fun h17 => ?_)
   ·
    have w40f := decide_eq_false (by rw [zR] at h17; simp at h17; omega : ¬ w.length ≤ 40)
    refine qT rfl rfl rfl rfl <| qP rfl rfl rfl rfl <| qN <| zW rfl (rfl) <| zB <| qR rfl <| qA rfl rfl rfl <| qN <| zK ?_
    exact zQ (.inr rfl) zA1 rfl (.of_eq (by rw [zO1 8]; congr 1; symm; first | (rw [show bareF 8 _ = false by simpa using h11]; rfl) | (rw [w40f]; simp; done) | (rw [c40f]; simp; done))) (.bool _) ⟨rfl, rfl⟩
   ·
    have w40t := decide_eq_true (by rw [zR] at h17; simp at h17; omega : w.length ≤ 40)
    refine qF rfl rfl rfl zI1 <| qL rfl rfl rfl rfl ta27 rfl <| qE rfl rfl zM rfl <| qC rfl rfl rfl rfl rfl <| qP rfl rfl rfl rfl <| qN ?_
    refine zJ rfl (fun h22 => ?_) (fun h22 => ?_)
    ·
     have c40f := decide_eq_false (by rw [zC] at h22; simp at h22; omega : ¬ c.length ≤ 40)
     refine zB <| qR rfl <| qA rfl rfl rfl <| qN <| zK ?_
     exact zQ (.inr rfl) zA1 rfl (.of_eq (by rw [zO1 8]; congr 1; symm; first | (rw [show bareF 8 _ = false by simpa using h11]; rfl) | (rw [w40f]; simp; done) | (rw [c40f]; simp; done))) (.bool _) ⟨rfl, rfl⟩
    ·
     have c40t := decide_eq_true (by rw [zC] at h22; simp at h22; omega : c.length ≤ 40)
     refine zA0 <| zB <| qR rfl <| qO rfl <| zP2 rfl rfl rfl <| qO rfl <| zN0 rfl zm54 rfl rfl <| qO rfl <| zH0 rfl rfl rfl rfl sz54 rfl rfl (zA rfl) rfl <| qN <| zB <| zB <| qR rfl <| qF rfl rfl rfl zG2 <| qL rfl rfl rfl rfl ta3 rfl <| qN <| zB0 <| zB <| qR rfl <| qC rfl rfl rfl rfl rfl <| qA rfl rfl rfl <| qN <| zL rfl (rfl) <| zB <| qR rfl <| qC rfl rfl rfl rfl rfl ?_
     refine qA rfl rfl rfl <| qN <| zL rfl (rfl) <| zB <| qR rfl <| qC rfl rfl rfl rfl rfl <| qA rfl rfl rfl <| qN <| zL rfl (rfl) <| zB <| qR rfl <| qC rfl rfl rfl rfl rfl <| qA rfl rfl rfl <| qN <| zL rfl (rfl) <| zB <| qR rfl <| qC rfl rfl rfl rfl rfl <| qA rfl rfl rfl <| qN <| zL rfl (rfl) <| zB <| qR rfl ?_
     refine qC rfl rfl rfl rfl rfl <| qA rfl rfl rfl <| qN <| zL rfl (rfl) <| zB <| qR rfl <| qC rfl rfl rfl rfl rfl <| qA rfl rfl rfl <| qN <| zL rfl (rfl) <| zA0 <| zB <| qR rfl <| qF rfl rfl rfl zI1 <| qL rfl rfl rfl rfl ta27 rfl <| qE rfl rfl zM rfl <| qF rfl rfl rfl zF1 <| qL rfl rfl rfl rfl ta28 rfl <| qE rfl rfl zO rfl <| qC rfl rfl rfl rfl rfl ?_
     refine qM rfl rfl rfl ?_
     refine zG0 (fun h125 => ?_) (fun h125 => ?_)
     ·
      have hsl : c.length = w.length := by rw [zC, zR] at h125; simp at h125; omega
      refine qF rfl rfl rfl zI1 <| qL rfl rfl rfl rfl ta27 rfl ?_
      refine qX rfl rfl rfl rfl co89 (isCause_spec c _) ?_
      refine qP rfl rfl rfl rfl <| qM rfl rfl rfl ?_
      refine zG0 (fun h130 => ?_) (fun h130 => ?_)
      ·
       refine qF rfl rfl rfl zF1 <| qL rfl rfl rfl rfl ta28 rfl <| qO rfl <| zP2 rfl rfl rfl ?_
       refine qX rfl rfl rfl rfl co84 (vContains_spec _ w (fun x => !isVF (.mk k1 i1) x) _ [] [.ref (S.length + 2) 0] co90 (fun x hx X => is3v_spec 8 k1 i1 [] (isVF (.mk k1 i1)) ih1 x (hvs x hx) _ _ _ (zI4 (k := 2) rfl) (zI4 (k := 0) rfl))) ?_
       refine qO rfl <| zG1 rfl rfl <| qP rfl rfl rfl rfl <| qA rfl rfl rfl <| qN <| zK ?_
       exact zQ (.inr rfl) zA1 rfl (.of_eq (by rw [zO1 8]; rw [show bareF 8 _ = true by simpa using h11, w40t, c40t]; simp only [Bool.true_and, isVL, List.headD_cons, List.tail_cons]; congr 1; rw [zF]; simp_all [zR, any_all'])) (.bool _) ⟨rfl, rfl⟩
      ·
       refine qT rfl rfl rfl rfl <| qS rfl <| qP rfl rfl rfl rfl <| qA rfl rfl rfl <| qN <| zK ?_
       exact zQ (.inr rfl) zA1 rfl (.of_eq (by rw [zO1 8]; rw [show bareF 8 _ = true by simpa using h11, w40t, c40t]; simp only [Bool.true_and, isVL, List.headD_cons, List.tail_cons]; congr 1; rw [zF]; simp_all [zR, any_all'])) (.bool _) ⟨rfl, rfl⟩
     ·
      have hsl : ¬ c.length = w.length := by rw [zC, zR] at h125; simp at h125; omega
      refine qS rfl <| qS rfl <| qS rfl <| qP rfl rfl rfl rfl <| qM rfl rfl rfl <| qT rfl rfl rfl rfl <| qS rfl <| qP rfl rfl rfl rfl <| qA rfl rfl rfl <| qN <| zK ?_
      exact zQ (.inr rfl) zA1 rfl (.of_eq (by rw [zO1 8]; rw [show bareF 8 _ = true by simpa using h11, w40t, c40t]; simp only [Bool.true_and, isVL, List.headD_cons, List.tail_cons]; congr 1; rw [zF]; simp_all [zR, any_all'])) (.bool _) ⟨rfl, rfl⟩
end Go.Proofs.YtnfcnpdpfgcchaaGreatDoor
namespace Go.MV
open Go Go.RowKit
section
def IterOk2 (P : Program) (k : FuncId) (first caps : List MV) (ys : List (List MV)) (okT : MS → Prop) (okU : Nat → MS → MS → Prop) : Prop :=
  ∀ (id : Nat) (T U : Nat → MS) (m : Nat), (∀ j, okT (T j)) → (∀ j, j ≤ m → okU j (T j) (U j)) → (∀ j y, j < m → ys[j]? = some y → YStep P id y (U j) true (T (j + 1))) →
    (m = ys.length → MCalls P k (first ++ [.yld id] ++ caps) (T 0) fun _ σ' => σ' = T m) ∧
    (∀ y, ys[m]? = some y → YStep P id y (U m) false (T (m + 1)) → MCalls P k (first ++ [.yld id] ++ caps) (T 0) fun _ σ' => σ' = T (m + 1))
theorem iterOk2_of {P : Program} {k : FuncId} {first caps : List MV} {ys : List (List MV)} {okT : MS → Prop} {okU : Nat → MS → MS → Prop} (h : ∀ (id : Nat) (T U : Nat → MS) (m : Nat), (∀ j, okT (T j)) → (∀ j, j ≤ m → okU j (T j) (U j)) → m ≤ ys.length → (∀ j y, j < m → ys[j]? = some y → YStep P id y (U j) true (T (j + 1))) → (∀ j y, j = m → ys[j]? = some y → YStep P id y (U j) false (T (j + 1))) →
    MCalls P k (first ++ [.yld id] ++ caps) (T 0) fun v σ' => v = .tup [] ∧ σ' = T (if m < ys.length then m + 1 else m)) : IterOk2 P k first caps ys okT okU := by
  intro id T U m hok hoku hyt
  refine ⟨fun hm => ?_, fun y hy hyf => ?_⟩
  · refine (h id T U m hok hoku (by omega) hyt (fun j y hj hy => ?_)).mono ?_
    · have := (zI.1 hy).1; omega
    · rintro v σ' ⟨_, h⟩
      rw [h, if_neg (by omega)]
  · have hm := (zI.1 hy).1
    refine (h id T U m hok hoku (by omega) hyt (fun j z hj hz => ?_)).mono ?_
    · subst hj
      rw [hy] at hz
      injection hz with hz
      subst hz
      exact hyf
    · rintro v σ' ⟨_, h⟩
      rw [h, if_pos hm]
section
variable {P : Program} {rd : Option Nat} {N n : Nat} {Q : Exit → Env → MS → Prop} {env : Env} {S : MS}
theorem mwp_rangeC {f : Operand} {ps : Array Tmp} {assign body : Code} {k : FuncId} {first caps : List MV} {ys : List (List MV)} {okT : MS → Prop} {okU : Nat → MS → MS → Prop} {L0 : MS} (ex : Exit) (hex : ex = .ret ∨ ∃ x, ex = .exit x) (p : Nat → Bool) (L LU Ls : Nat → MS) (hlen : ∀ j, (L j).length = (L 0).length) (hlenu : ∀ j, (LU j).length = (L 0).length) (hlens : ∀ j, (Ls j).length = (L 0).length) (hL0 : L0 = L 0)
    (hcl : ∀ j o, o ∈ L j → ∀ n, (S ++ L 0).length ≤ n → o.cl n) (hclu : ∀ j o, o ∈ LU j → ∀ n, (S ++ L 0).length ≤ n → o.cl n) (hcls : ∀ j o, o ∈ Ls j → ∀ n, (S ++ L 0).length ≤ n → o.cl n)
    (hf : evo env f = some (.fn (.func k) first caps)) (hb : CallOk P k) (hrd : rd = none) (hN : N ≤ (S ++ L 0).length)
    (hit : IterOk2 P k first caps ys (fun σ => okT σ ∧ ClS σ) okU) (hok : ∀ j, okT ((S ++ L j) ++ [.loop .ready none ⟨ps, assign, body, env, n⟩])) (hoku : ∀ j, j ≤ ys.length → okU j ((S ++ L j) ++ [.loop .ready none ⟨ps, assign, body, env, n⟩]) ((S ++ LU j) ++ [.loop .ready none ⟨ps, assign, body, env, n⟩])) (hoks : ∀ j s q, okT ((S ++ Ls j) ++ [.loop s q ⟨ps, assign, body, env, n⟩])) (hpb : ps.toList.all (fun t => Nat.blt t n) = true) (hps : ∀ y ∈ ys, ps.size = y.length)
    (hround : ∀ j y, ys[j]? = some y → (∀ i, i < j → p i = true) → ∀ L' : MS, mwp P (some (S ++ L 0).length) ((S ++ LU j).length + 1 + L'.length) n assign (fun e env1 σ1 => e = .normal ∧ ∃ J, σ1 = ((S ++ LU j) ++ .loop .ready none ⟨ps, assign, body, env, n⟩ :: L') ++ J ∧
      mwp P (some (S ++ L 0).length) ((S ++ LU j).length + 1 + L'.length) n body (fun e2 env2 σ2 =>
        (p j = true ∧ e2 = .normal ∧ ∃ junk, σ2 = ((S ++ L (j + 1)) ++ .loop .busy none ⟨ps, assign, body, env, n⟩ :: L') ++ junk) ∨
        (p j = false ∧ e2 = ex ∧ ∃ junk, σ2 = ((S ++ Ls j) ++ .loop .busy none ⟨ps, assign, body, env, n⟩ :: L') ++ junk)) env1 (((S ++ LU j) ++ .loop .busy none ⟨ps, assign, body, env, n⟩ :: L') ++ J)) (bindPs ps.toList y env) ((S ++ LU j) ++ .loop .ready none ⟨ps, assign, body, env, n⟩ :: L'))
    (hend : (∀ j, j < ys.length → p j = true) → Q .normal env ((S ++ L ys.length) ++ [.gone]))
    (hstop : ∀ j y, ys[j]? = some y → p j = false → Q ex env ((S ++ Ls j) ++ [.gone])) : mwp P rd N n (.rangeFunc f ps assign body) Q env (S ++ L0) := by
  subst hL0 hrd
  have hid : ∀ j, (S ++ L j).length = (S ++ L 0).length := fun j => by simp [hlen j]
  have hidu : ∀ j, (S ++ LU j).length = (S ++ L 0).length := fun j => by simp [hlenu j]
  have hids : ∀ j, (S ++ Ls j).length = (S ++ L 0).length := fun j => by simp [hlens j]
  refine zY1 fun hce hcs => ?_
  have hc0 : ∀ s q, ClS ((S ++ L 0) ++ [.loop s q ⟨ps, assign, body, env, n⟩]) := fun s q => cls_loop hcs hce
  refine mwp_range hf hb (fun id h => by cases h) hN ?_
  have hstep : ∀ j y, ys[j]? = some y → (∀ i, i < j → p i = true) → ∀ (K : MV → MS → Prop) (L' : MS) (rd' : Option Nat) (o : Oper) (env' : Env) (f' : Operand) (args : Array Operand) (ts : Array TypeId), o.op = .call { callee := .value f', args := args, argTypes := ts } → evo env' f' = some (.yld (S ++ L 0).length) → evos env' args.toList = some y →
      (p j = true → K (.bool true) ((S ++ L (j + 1)) ++ .loop .ready none ⟨ps, assign, body, env, n⟩ :: L')) →
      (p j = false → K (.bool false) ((S ++ Ls j) ++ .loop .done (some (exCode ex)) ⟨ps, assign, body, env, n⟩ :: L')) →
      OpWp P rd' o env' ((S ++ LU j) ++ .loop .ready none ⟨ps, assign, body, env, n⟩ :: L') K := by
    intro j y hy hbef K L' rd' o env' f' args ts ho hf' hargs hk1 hk2
    have hsz : args.size = y.length := by
      have := evos_len _ _ hargs
      simpa using this
    have hget : ((S ++ LU j) ++ MObj.loop .ready none ⟨ps, assign, body, env, n⟩ :: L')[(S ++ L 0).length]? = some (.loop .ready none ⟨ps, assign, body, env, n⟩) := by
      rw [← hidu j]; exact zN4
    have hN' : ((S ++ LU j) ++ MObj.loop .ready none ⟨ps, assign, body, env, n⟩ :: L').length = (S ++ LU j).length + 1 + L'.length := by
      rw [zN, zY]; omega
    refine op_yield ho hf' hargs hget (by rw [hsz]; exact hps y (zF0 hy)) hpb ?_
    rw [hN']
    refine zY1 fun _ hcl0 => ?_
    refine mwp_mono (hround j y hy hbef L') ?_
    rintro e env1 σ1 ⟨rfl, J, rfl, h⟩
    refine ⟨rfl, none, zZ hget, ?_⟩
    have hset : (((S ++ LU j) ++ MObj.loop .ready none ⟨ps, assign, body, env, n⟩ :: L') ++ J).set (S ++ L 0).length (.loop .busy none ⟨ps, assign, body, env, n⟩) = ((S ++ LU j) ++ .loop .busy none ⟨ps, assign, body, env, n⟩ :: L') ++ J := by
      rw [set_app hget, ← hidu j]; exact congrArg (· ++ J) zS5
    rw [hset]
    refine mwp_mono h ?_
    rintro e2 env2 σ2 (⟨hp, rfl, junk, rfl⟩ | ⟨hp, rfl, junk, rfl⟩)
    · refine ⟨_, junk, none, ⟨ps, assign, body, env, n⟩, rfl, ?_, .inr (zE6 (hlenu j) (hlen (j + 1)) (hcl (j + 1)) (by simp) hcl0), ?_, ?_⟩
      · have h1 := hid (j + 1)
        have h2 := hidu j
        simp only [zN, zY] at *
        omega
      · rw [← hid (j + 1)]; exact zN4
      · show K (.bool true) _
        rw [← hid (j + 1), zS5]
        exact hk1 hp
    · refine ⟨_, junk, none, ⟨ps, assign, body, env, n⟩, rfl, ?_, .inr (zE6 (hlenu j) (hlens j) (hcls j) (by simp) hcl0), ?_, ?_⟩
      · have h1 := hids j
        have h2 := hidu j
        simp only [zN, zY] at *
        omega
      · rw [← hids j]; exact zN4
      · rcases hex with rfl | ⟨x, rfl⟩
        · show K (.bool false) _
          rw [← hids j, zS5]
          exact hk2 hp
        · show K (.bool false) _
          rw [← hids j, zS5]
          exact hk2 hp
  have hgo : ∀ m, (∀ j, j < m → p j = true) → ∀ (T : Nat → MS), (∀ j, j ≤ m → T j = (S ++ L j) ++ [.loop .ready none ⟨ps, assign, body, env, n⟩]) → ∀ j y, j < m → ys[j]? = some y → YStep P (S ++ L 0).length y ((S ++ LU j) ++ [.loop .ready none ⟨ps, assign, body, env, n⟩]) true (T (j + 1)) := by
    intro m hm T hT j y hj hy L' rd' o env' f' args ts ho hf' hargs
    have e1 : ∀ (A : MS) (X : MObj), ((S ++ A) ++ [X]) ++ L' = (S ++ A) ++ X :: L' := fun i X => by simp
    rw [hT (j + 1) (by omega), e1, e1]
    exact hstep j y hy (fun i hi => hm i (by omega)) _ L' rd' o env' f' args ts ho hf' hargs (fun _ => ⟨rfl, rfl⟩) (fun h => by rw [hm j hj] at h; cases h)
  rcases first_bad p ys.length with hall | ⟨m, hm, hp, hbef⟩
  · refine ((hit (S ++ L 0).length (fun j => (S ++ L j) ++ [.loop .ready none ⟨ps, assign, body, env, n⟩]) (fun j => (S ++ LU j) ++ [.loop .ready none ⟨ps, assign, body, env, n⟩]) ys.length (fun j => ⟨hok j, zE6 (hlen 0) (hlen j) (hcl j) rfl (hc0 .ready none)⟩) (fun j hj => hoku j hj) (hgo ys.length hall _ (fun j _ => rfl))).1 rfl).mono ?_
    rintro v σ' rfl
    refine ⟨.ready, none, by rw [← hid ys.length]; exact zN4, by simp, ?_⟩
    show Q .normal env _
    rw [← hid ys.length, zS5]
    exact hend hall
  · obtain ⟨y, hy⟩ : ∃ y, ys[m]? = some y := ⟨_, zD hm⟩
    let q : Code := exCode ex
    let T : Nat → MS := fun j => if j ≤ m then (S ++ L j) ++ [.loop .ready none ⟨ps, assign, body, env, n⟩] else (S ++ Ls m) ++ [.loop .done (some q) ⟨ps, assign, body, env, n⟩]
    have hT : ∀ j, j ≤ m → T j = (S ++ L j) ++ [.loop .ready none ⟨ps, assign, body, env, n⟩] := fun j hj => by simp [T, hj]
    have hT1 : T (m + 1) = (S ++ Ls m) ++ [.loop .done (some q) ⟨ps, assign, body, env, n⟩] := by simp [T]
    have h0 : T 0 = (S ++ L 0) ++ [.loop .ready none ⟨ps, assign, body, env, n⟩] := hT 0 (by omega)
    have hokT : ∀ j, okT (T j) ∧ ClS (T j) := fun j => by
      by_cases hj : j ≤ m
      · rw [hT j hj]; exact ⟨hok j, zE6 (hlen 0) (hlen j) (hcl j) rfl (hc0 .ready none)⟩
      · simp only [T, if_neg hj]; exact ⟨hoks m _ _, zE6 (hlen 0) (hlens m) (hcls m) rfl (hc0 .ready none)⟩
    have := (hit (S ++ L 0).length T (fun j => (S ++ LU j) ++ [.loop .ready none ⟨ps, assign, body, env, n⟩]) m hokT (fun j hj => by rw [hT j hj]; exact hoku j (by omega)) (hgo m hbef T hT)).2 y hy (by
      intro L' rd' o env' f' args ts ho hf' hargs
      have e1 : ∀ (A : MS) (X : MObj), ((S ++ A) ++ [X]) ++ L' = (S ++ A) ++ X :: L' := fun i X => by simp
      rw [hT1, e1, e1]
      exact hstep m y hy hbef _ L' rd' o env' f' args ts ho hf' hargs (fun h => by rw [hp] at h; cases h) (fun _ => ⟨rfl, rfl⟩))
    rw [h0] at this
    refine this.mono ?_
    rintro v σ' rfl
    rw [hT1]
    refine ⟨.done, some q, by rw [← hids m]; exact zN4, by simp, ?_⟩
    rw [← hids m, zS5]
    rcases hex with rfl | ⟨x, rfl⟩
    · exact hstop m y hy hp
    · exact hstop m y hy hp
end
end
end Go.MV
namespace Go.Proofs.YtnfcnpdpfgcchaaGreatDoor
open Go Go.MV
def bothX : List Bs → List Bs → List Bs
 | [], [] => []
 | x :: a, [] => x :: bothX a []
 | [], y :: b => y :: bothX [] b
 | x :: a, y :: b => if Op.bytesLess x y then x :: bothX a (y :: b) else if Op.bytesLess y x then y :: bothX (x :: a) b else x :: bothX a b
 termination_by a b => a.length + b.length
theorem len_snoc {α : Type} {l : List α} {x : α} : (l ++ [x]).length = l.length + 1 := by simp
theorem getDJ_of {α : Type} {l : List α} {i : Nat} {a d : α} (h : l[i]? = some a) : l.getD i d = a := by simp [h]
theorem _root_.zM2 : type_of% @getDJ_of := @getDJ_of
theorem drop_getD {l : List Bs} {i : Nat} (h : i < l.length) : l.drop i = l.getD i [] :: l.drop (i + 1) := by
 rw [List.drop_eq_getElem_cons h]; simp [h]
theorem both_end : bothX [] [] = [] := by rw [bothX]
theorem both_A {a b : List Bs} {i k : Nat} (hi : i < a.length) (hk : k ≤ b.length) (h : k = b.length ∨ Op.bytesLess (a.getD i []) (b.getD k []) = true) : bothX (a.drop i) (b.drop k) = a.getD i [] :: bothX (a.drop (i + 1)) (b.drop k) := by
 rw [drop_getD hi]
 by_cases e : k = b.length
 ·rw [e, List.drop_length, bothX]
 ·have hkb : k < b.length := by omega
  rw [drop_getD hkb, bothX, if_pos (h.resolve_left e)]
theorem both_B {a b : List Bs} {i k : Nat} (hk : k < b.length) (hi : i ≤ a.length) (h : i = a.length ∨ (Op.bytesLess (a.getD i []) (b.getD k []) = false ∧ Op.bytesLess (b.getD k []) (a.getD i []) = true)) : bothX (a.drop i) (b.drop k) = b.getD k [] :: bothX (a.drop i) (b.drop (k + 1)) := by
 rw [drop_getD hk]
 by_cases e : i = a.length
 ·rw [e, List.drop_length, bothX]
 ·have hia : i < a.length := by omega
  obtain ⟨h1, h2⟩ := h.resolve_left e
  rw [drop_getD hia, bothX, if_neg (fun hh => by rw [h1] at hh; cases hh), if_pos h2]
theorem both_C {a b : List Bs} {i k : Nat} (hi : i < a.length) (hk : k < b.length) (h1 : Op.bytesLess (a.getD i []) (b.getD k []) = false) (h2 : Op.bytesLess (b.getD k []) (a.getD i []) = false) : bothX (a.drop i) (b.drop k) = a.getD i [] :: bothX (a.drop (i + 1)) (b.drop (k + 1)) := by
 rw [drop_getD hi, drop_getD hk, bothX, if_neg (fun hh => by rw [h1] at hh; cases hh), if_neg (fun hh => by rw [h2] at hh; cases hh)]
theorem both_len : ∀ a b : List Bs, (bothX a b).length ≤ a.length + b.length := by
 intro a b
 induction a, b using bothX.induct with
 | case1 => simp [bothX]
 | case2 x a ih => rw [bothX]; simp at ih ⊢; omega
 | case3 y b ih => rw [bothX]; simp at ih ⊢; omega
 | case4 x a y b h ih => rw [bothX, if_pos h]; simp at ih ⊢; omega
 | case5 x a y b h h2 ih => rw [bothX, if_neg h, if_pos h2]; simp at ih ⊢; omega
 | case6 x a y b h h2 ih => rw [bothX, if_neg h, if_neg h2]; simp at ih ⊢; omega
theorem _root_.zF2 : type_of% @Tryz.results130 := @Tryz.results130
theorem with_iter (a b : List Bs) (hab : a.length + b.length ≤ 1000000) (ida idb l0 : Nat) : IterOk Tryz.prog 130 [] [.ref ida 0, .ref idb 0] ((bothX a b).map fun x => [encX x]) (fun σ => σ.length = l0 ∧ σ[ida]? = some (.cells [.lst none 1 (a.map encX)]) ∧ σ[idb]? = some (.cells [.lst none 1 (b.map encX)])) := by
 refine iterOk_of fun id T m hok hm hyt hyf => ?_
 have hml : ((bothX a b).map fun x => [encX x]).length = (bothX a b).length := zC ..
 refine zU Tryz.func130 rfl Tryz.ntmps130 (zA rfl) ?_
 rw [List.append_nil]
 show mwp _ _ _ _ _ _ _ (([] : MS) ++ T 0)
 refine zB <| qR rfl <| qA rfl rfl rfl <| qA rfl rfl rfl <| qN <| zB0 ?_
 refine zV1 (α := Nat × Nat × Nat) [(0, _), (1, _), (2, _)] (fun x => [(4, .int .i64 (x.2.1 : Int)), (5, .int .i64 (x.2.2 : Int))]) (fun x => T x.1) (fun x => x.1 ≤ m ∧ x.2.1 ≤ a.length ∧ x.2.2 ≤ b.length ∧ bothX (a.drop x.2.1) (b.drop x.2.2) = (bothX a b).drop x.1) (fun x => a.length - x.2.1 + (b.length - x.2.2)) (⟨0, 0, 0⟩) (.keep rfl (.keep rfl (.keep rfl (.nil)))) (.keep rfl (.keep rfl (.nil))) (⟨by simp, by simp, by simp, rfl⟩) (rfl) ?_
 rintro ⟨j, i, k⟩ ⟨hj, hi, hk, he⟩
 dsimp only at hj hi hk he ⊢
 refine zB <| zB <| qR rfl <| qM rfl rfl rfl <| qO rfl <| zT rfl rfl ((hok _).2.1) ta120 rfl <| qE rfl rfl zJ0 rfl <| qC rfl rfl rfl rfl rfl <| qM rfl rfl rfl ?_
 refine zG0 (fun h11 => ?_) (fun h11 => ?_)
 ·
  have hia : i < a.length := by rw [zC] at h11; simpa using h11
  refine qT rfl rfl rfl rfl <| qP rfl rfl rfl rfl <| qN <| zW rfl (rfl) <| zA0 <| zB0 <| zB <| qR rfl <| qA rfl rfl rfl <| qN <| zB <| zB0 <| zB ?_
  refine zU0 [] [_] mo (by decide) rfl rfl rfl rfl ?_
  refine dO rfl rfl rfl (zV rfl rfl ⟨rfl, rfl⟩) <| dO rfl rfl rfl (zT rfl rfl ((hok _).2.2) ta120 rfl ⟨rfl, rfl⟩) <| dO rfl rfl rfl (zT1 rfl zJ0 rfl ⟨rfl, rfl⟩) <| dO rfl rfl rfl (zE2 rfl rfl rfl rfl ⟨rfl, rfl⟩) <| dO rfl rfl rfl (zV rfl rfl ⟨rfl, rfl⟩) ?_
  refine zH2 (fun h30 => ?_) (fun h30 => ?_)
  ·
   have hk2 : k = b.length := by rw [zC] at h30; simp at h30; omega
   refine dS rfl rfl <| dS rfl rfl <| dS rfl rfl <| dS rfl rfl <| dS rfl rfl <| dS rfl rfl <| dS rfl rfl <| dS rfl rfl <| dS rfl rfl <| dS rfl rfl <| dS rfl rfl <| dS rfl rfl <| dS rfl rfl <| dS rfl rfl <| dS rfl rfl <| dO rfl rfl rfl (zE1 rfl rfl rfl ⟨rfl, rfl⟩) <| dO rfl rfl rfl (zB1 rfl rfl ⟨rfl, rfl⟩) <| zL0 <| zW rfl (rfl) <| zB ?_
   obtain ⟨x, hs⟩ : ∃ q, a[i]? = some q := ⟨_, zD (by omega)⟩
   have hgx := zM2 (d := []) hs
   refine qR rfl <| qO rfl <| zT rfl rfl ((hok _).2.1) ta120 rfl <| qM rfl rfl rfl <| qO rfl <| zG rfl zJ0 sz9 (by decide) rfl rfl rfl (zV0 hs) ?_
   refine qO rfl <| zH rfl rfl ta9 rfl <| qA rfl rfl rfl <| qN <| qR rfl <| qM rfl rfl rfl <| qO rfl <| zY0 rfl rfl rfl (wadd (a := i) (b := 1) rfl (by omega)) ?_
   refine qA rfl rfl rfl ?_
   have hnx := he
   rw [both_A (by omega) (by omega) (by first | exact .inl hk2 | exact .inr hlt), hgx] at hnx
   obtain ⟨hy, hnx⟩ := zQ1 hnx
   replace hy : ((bothX a b).map fun x => [encX x])[j]? = some [encX x] := by rw [zQ0, hy]; rfl
   have hjl := (zI.1 hy).1
   refine qN <| zB ?_
   rcases Nat.lt_or_eq_of_le hj with hjm | hjm
   ·
    refine qR rfl <| qM rfl rfl rfl <| qM rfl rfl rfl <| qO rfl <| ((hyt j _ hjm hy).at0 rfl rfl rfl).mono ?_
    rintro _ _ ⟨rfl, rfl⟩
    refine qO rfl <| zG1 rfl rfl <| qN <| zL rfl (rfl) <| zA0 ?_
    refine ⟨⟨j + 1, _, _⟩, by dsimp only; omega, ⟨by dsimp only; omega, by dsimp only; omega, by dsimp only; omega, hnx⟩, rfl, (.keep rfl (.keep rfl (.keep rfl (.nil)))), (.eq rfl (rfl) (.eq rfl (rfl) (.nil)))⟩
   ·
    refine qR rfl <| qM rfl rfl rfl <| qM rfl rfl rfl <| qO rfl <| ((hyf j _ hjm hy).at0 rfl rfl rfl).mono ?_
    rintro _ _ ⟨rfl, rfl⟩
    refine qO rfl <| zG1 rfl rfl <| qN <| zW rfl (rfl) ?_
    refine zY1 fun hcv hcl => ?_
    refine zK ?_
    exact zQ2 (S' := T (j + 1)) (by simp) zF2 (by rw [(hok _).1, (hok _).1]; exact Nat.le_refl _) hcl ⟨rfl, by rw [hjm, if_pos (by omega)]⟩
  ·
   have hk2 : ¬ k = b.length := by rw [zC] at h30; simp at h30; omega
   refine dO rfl rfl rfl (zV rfl rfl ⟨rfl, rfl⟩) <| dO rfl rfl rfl (zT rfl rfl ((hok _).2.1) ta120 rfl ⟨rfl, rfl⟩) <| dO rfl rfl rfl (zT1 rfl zJ0 rfl ⟨rfl, rfl⟩) <| dO rfl rfl rfl (zE2 rfl rfl rfl rfl ⟨rfl, rfl⟩) <| dO rfl rfl rfl (zV rfl rfl ⟨rfl, rfl⟩) ?_
   refine zH2 (fun h35 => ?_) (fun h35 => ?_)
   ·
    have hia2 : i < a.length := by rw [zC] at h35; simpa using h35
    obtain ⟨x, hs⟩ : ∃ q, a[i]? = some q := ⟨_, zD (by omega)⟩
    have hgx := zM2 (d := []) hs
    obtain ⟨y, hs2⟩ : ∃ q, b[k]? = some q := ⟨_, zD (by omega)⟩
    have hgy := zM2 (d := []) hs2
    refine dO rfl rfl rfl (zT rfl rfl ((hok _).2.1) ta120 rfl ⟨rfl, rfl⟩) <| dO rfl rfl rfl (zV rfl rfl ⟨rfl, rfl⟩) <| dO rfl rfl rfl (zG rfl zJ0 sz9 (by decide) rfl rfl rfl (zV0 hs) ⟨rfl, rfl⟩) ?_
    refine dO rfl rfl rfl (zH rfl rfl ta9 rfl ⟨rfl, rfl⟩) <| dO rfl rfl rfl (zT rfl rfl ((hok _).2.2) ta120 rfl ⟨rfl, rfl⟩) <| dO rfl rfl rfl (zV rfl rfl ⟨rfl, rfl⟩) <| dO rfl rfl rfl (zG rfl zJ0 sz9 (by decide) rfl rfl rfl (zV0 hs2) ⟨rfl, rfl⟩) ?_
    refine dO rfl rfl rfl (zH rfl rfl ta9 rfl ⟨rfl, rfl⟩) <| dO rfl rfl rfl (zG3 rfl rfl rfl rfl ⟨rfl, rfl⟩) <| dO rfl rfl rfl (zE1 rfl rfl rfl ⟨rfl, rfl⟩) <| dO rfl rfl rfl (zE1 rfl rfl rfl ⟨rfl, rfl⟩) <| dO rfl rfl rfl (zB1 rfl rfl ⟨rfl, rfl⟩) <| zL0 ?_
    refine zJ rfl (fun h25 => ?_) (fun h25 => ?_)
    ·
     have hlt : Op.bytesLess (a.getD i []) (b.getD k []) = true := by rw [hgx, hgy]; simpa using h25
     refine zB ?_
     obtain ⟨x, hs⟩ : ∃ q, a[i]? = some q := ⟨_, zD (by omega)⟩
     have hgx := zM2 (d := []) hs
     refine qR rfl <| qO rfl <| zT rfl rfl ((hok _).2.1) ta120 rfl <| qM rfl rfl rfl <| qO rfl <| zG rfl zJ0 sz9 (by decide) rfl rfl rfl (zV0 hs) ?_
     refine qO rfl <| zH rfl rfl ta9 rfl <| qA rfl rfl rfl <| qN <| qR rfl <| qM rfl rfl rfl <| qO rfl <| zY0 rfl rfl rfl (wadd (a := i) (b := 1) rfl (by omega)) ?_
     refine qA rfl rfl rfl ?_
     have hnx := he
     rw [both_A (by omega) (by omega) (by first | exact .inl hk2 | exact .inr hlt), hgx] at hnx
     obtain ⟨hy, hnx⟩ := zQ1 hnx
     replace hy : ((bothX a b).map fun x => [encX x])[j]? = some [encX x] := by rw [zQ0, hy]; rfl
     have hjl := (zI.1 hy).1
     refine qN <| zB ?_
     rcases Nat.lt_or_eq_of_le hj with hjm | hjm
     ·
      refine qR rfl <| qM rfl rfl rfl <| qM rfl rfl rfl <| qO rfl <| ((hyt j _ hjm hy).at0 rfl rfl rfl).mono ?_
      rintro _ _ ⟨rfl, rfl⟩
      refine qO rfl <| zG1 rfl rfl <| qN <| zL rfl (rfl) <| zA0 ?_
      refine ⟨⟨j + 1, _, _⟩, by dsimp only; omega, ⟨by dsimp only; omega, by dsimp only; omega, by dsimp only; omega, hnx⟩, rfl, (.keep rfl (.keep rfl (.keep rfl (.nil)))), (.eq rfl (rfl) (.eq rfl (rfl) (.nil)))⟩
     ·
      refine qR rfl <| qM rfl rfl rfl <| qM rfl rfl rfl <| qO rfl <| ((hyf j _ hjm hy).at0 rfl rfl rfl).mono ?_
      rintro _ _ ⟨rfl, rfl⟩
      refine qO rfl <| zG1 rfl rfl <| qN <| zW rfl (rfl) ?_
      refine zY1 fun hcv hcl => ?_
      refine zK ?_
      exact zQ2 (S' := T (j + 1)) (by simp) zF2 (by rw [(hok _).1, (hok _).1]; exact Nat.le_refl _) hcl ⟨rfl, by rw [hjm, if_pos (by omega)]⟩
    ·
     have hlt : Op.bytesLess (a.getD i []) (b.getD k []) = false := by rw [hgx, hgy]; simpa using h25
     refine zB ?_
     refine zU0 [] [_] mo (by decide) rfl rfl rfl rfl ?_
     refine dO rfl rfl rfl (zV rfl rfl ⟨rfl, rfl⟩) <| dO rfl rfl rfl (zT rfl rfl ((hok _).2.1) ta120 rfl ⟨rfl, rfl⟩) <| dO rfl rfl rfl (zT1 rfl zJ0 rfl ⟨rfl, rfl⟩) <| dO rfl rfl rfl (zE2 rfl rfl rfl rfl ⟨rfl, rfl⟩) <| dO rfl rfl rfl (zV rfl rfl ⟨rfl, rfl⟩) ?_
     refine zH2 (fun h58 => ?_) (fun h58 => ?_)
     ·
      have hia3 : i = a.length := by rw [zC] at h58; simp at h58; omega
      refine dS rfl rfl <| dS rfl rfl <| dS rfl rfl <| dS rfl rfl <| dS rfl rfl <| dS rfl rfl <| dS rfl rfl <| dS rfl rfl <| dS rfl rfl <| dO rfl rfl rfl (zE1 rfl rfl rfl ⟨rfl, rfl⟩) <| dO rfl rfl rfl (zB1 rfl rfl ⟨rfl, rfl⟩) <| zL0 <| zW rfl (rfl) <| zB ?_
      obtain ⟨y, hs2⟩ : ∃ q, b[k]? = some q := ⟨_, zD (by omega)⟩
      have hgy := zM2 (d := []) hs2
      refine qR rfl <| qO rfl <| zT rfl rfl ((hok _).2.2) ta120 rfl <| qM rfl rfl rfl <| qO rfl <| zG rfl zJ0 sz9 (by decide) rfl rfl rfl (zV0 hs2) ?_
      refine qO rfl <| zH rfl rfl ta9 rfl <| qA rfl rfl rfl <| qN <| qR rfl <| qM rfl rfl rfl <| qO rfl <| zY0 rfl rfl rfl (wadd (a := k) (b := 1) rfl (by omega)) ?_
      refine qA rfl rfl rfl ?_
      have hnx := he
      rw [both_B (by omega) (by omega) (by first | exact .inl hia3 | exact .inr ⟨hlt, hgt⟩ | exact .inl (by omega)), hgy] at hnx
      obtain ⟨hy, hnx⟩ := zQ1 hnx
      replace hy : ((bothX a b).map fun x => [encX x])[j]? = some [encX y] := by rw [zQ0, hy]; rfl
      have hjl := (zI.1 hy).1
      refine qN <| zB ?_
      rcases Nat.lt_or_eq_of_le hj with hjm | hjm
      ·
       refine qR rfl <| qM rfl rfl rfl <| qM rfl rfl rfl <| qO rfl <| ((hyt j _ hjm hy).at0 rfl rfl rfl).mono ?_
       rintro _ _ ⟨rfl, rfl⟩
       refine qO rfl <| zG1 rfl rfl <| qN <| zL rfl (rfl) <| zA0 ?_
       refine ⟨⟨j + 1, _, _⟩, by dsimp only; omega, ⟨by dsimp only; omega, by dsimp only; omega, by dsimp only; omega, hnx⟩, rfl, (.keep rfl (.keep rfl (.keep rfl (.nil)))), (.eq rfl (rfl) (.eq rfl (rfl) (.nil)))⟩
      ·
       refine qR rfl <| qM rfl rfl rfl <| qM rfl rfl rfl <| qO rfl <| ((hyf j _ hjm hy).at0 rfl rfl rfl).mono ?_
       rintro _ _ ⟨rfl, rfl⟩
       refine qO rfl <| zG1 rfl rfl <| qN <| zW rfl (rfl) ?_
       refine zY1 fun hcv hcl => ?_
       refine zK ?_
       exact zQ2 (S' := T (j + 1)) (by simp) zF2 (by rw [(hok _).1, (hok _).1]; exact Nat.le_refl _) hcl ⟨rfl, by rw [hjm, if_pos (by omega)]⟩
     ·
      have hia3 : ¬ i = a.length := by rw [zC] at h58; simp at h58; omega
      obtain ⟨x, hs⟩ : ∃ q, a[i]? = some q := ⟨_, zD (by omega)⟩
      have hgx := zM2 (d := []) hs
      obtain ⟨y, hs2⟩ : ∃ q, b[k]? = some q := ⟨_, zD (by omega)⟩
      have hgy := zM2 (d := []) hs2
      refine dO rfl rfl rfl (zT rfl rfl ((hok _).2.2) ta120 rfl ⟨rfl, rfl⟩) <| dO rfl rfl rfl (zV rfl rfl ⟨rfl, rfl⟩) <| dO rfl rfl rfl (zG rfl zJ0 sz9 (by decide) rfl rfl rfl (zV0 hs2) ⟨rfl, rfl⟩) ?_
      refine dO rfl rfl rfl (zH rfl rfl ta9 rfl ⟨rfl, rfl⟩) <| dO rfl rfl rfl (zT rfl rfl ((hok _).2.1) ta120 rfl ⟨rfl, rfl⟩) <| dO rfl rfl rfl (zV rfl rfl ⟨rfl, rfl⟩) <| dO rfl rfl rfl (zG rfl zJ0 sz9 (by decide) rfl rfl rfl (zV0 hs) ⟨rfl, rfl⟩) ?_
      refine dO rfl rfl rfl (zH rfl rfl ta9 rfl ⟨rfl, rfl⟩) <| dO rfl rfl rfl (zG3 rfl rfl rfl rfl ⟨rfl, rfl⟩) <| dO rfl rfl rfl (zE1 rfl rfl rfl ⟨rfl, rfl⟩) <| dO rfl rfl rfl (zB1 rfl rfl ⟨rfl, rfl⟩) <| zL0 ?_
      refine zJ rfl (fun h53 => ?_) (fun h53 => ?_)
      ·
       have hgt : Op.bytesLess (b.getD k []) (a.getD i []) = true := by rw [hgx, hgy]; simpa using h53
       refine zB ?_
       obtain ⟨y, hs2⟩ : ∃ q, b[k]? = some q := ⟨_, zD (by omega)⟩
       have hgy := zM2 (d := []) hs2
       refine qR rfl <| qO rfl <| zT rfl rfl ((hok _).2.2) ta120 rfl <| qM rfl rfl rfl <| qO rfl <| zG rfl zJ0 sz9 (by decide) rfl rfl rfl (zV0 hs2) ?_
       refine qO rfl <| zH rfl rfl ta9 rfl <| qA rfl rfl rfl <| qN <| qR rfl <| qM rfl rfl rfl <| qO rfl <| zY0 rfl rfl rfl (wadd (a := k) (b := 1) rfl (by omega)) ?_
       refine qA rfl rfl rfl ?_
       have hnx := he
       rw [both_B (by omega) (by omega) (by first | exact .inl hia3 | exact .inr ⟨hlt, hgt⟩ | exact .inl (by omega)), hgy] at hnx
       obtain ⟨hy, hnx⟩ := zQ1 hnx
       replace hy : ((bothX a b).map fun x => [encX x])[j]? = some [encX y] := by rw [zQ0, hy]; rfl
       have hjl := (zI.1 hy).1
       refine qN <| zB ?_
       rcases Nat.lt_or_eq_of_le hj with hjm | hjm
       ·
        refine qR rfl <| qM rfl rfl rfl <| qM rfl rfl rfl <| qO rfl <| ((hyt j _ hjm hy).at0 rfl rfl rfl).mono ?_
        rintro _ _ ⟨rfl, rfl⟩
        refine qO rfl <| zG1 rfl rfl <| qN <| zL rfl (rfl) <| zA0 ?_
        refine ⟨⟨j + 1, _, _⟩, by dsimp only; omega, ⟨by dsimp only; omega, by dsimp only; omega, by dsimp only; omega, hnx⟩, rfl, (.keep rfl (.keep rfl (.keep rfl (.nil)))), (.eq rfl (rfl) (.eq rfl (rfl) (.nil)))⟩
       ·
        refine qR rfl <| qM rfl rfl rfl <| qM rfl rfl rfl <| qO rfl <| ((hyf j _ hjm hy).at0 rfl rfl rfl).mono ?_
        rintro _ _ ⟨rfl, rfl⟩
        refine qO rfl <| zG1 rfl rfl <| qN <| zW rfl (rfl) ?_
        refine zY1 fun hcv hcl => ?_
        refine zK ?_
        exact zQ2 (S' := T (j + 1)) (by simp) zF2 (by rw [(hok _).1, (hok _).1]; exact Nat.le_refl _) hcl ⟨rfl, by rw [hjm, if_pos (by omega)]⟩
      ·
       have hgt : Op.bytesLess (b.getD k []) (a.getD i []) = false := by rw [hgx, hgy]; simpa using h53
       refine zB ?_
       obtain ⟨x, hs⟩ : ∃ q, a[i]? = some q := ⟨_, zD (by omega)⟩
       have hgx := zM2 (d := []) hs
       refine qR rfl <| qO rfl <| zT rfl rfl ((hok _).2.1) ta120 rfl <| qM rfl rfl rfl <| qO rfl <| zG rfl zJ0 sz9 (by decide) rfl rfl rfl (zV0 hs) ?_
       refine qO rfl <| zH rfl rfl ta9 rfl <| qA rfl rfl rfl <| qN <| qR rfl <| qM rfl rfl rfl <| qO rfl <| zY0 rfl rfl rfl (wadd (a := i) (b := 1) rfl (by omega)) ?_
       refine qM rfl rfl rfl <| qO rfl <| zY0 rfl rfl rfl (wadd (a := k) (b := 1) rfl (by omega)) ?_
       refine qA rfl rfl rfl <| qA rfl rfl rfl ?_
       have hnx := he
       rw [both_C (by omega) (by omega) (by first | exact hlt | (exfalso; omega)) hgt, hgx] at hnx
       obtain ⟨hy, hnx⟩ := zQ1 hnx
       replace hy : ((bothX a b).map fun x => [encX x])[j]? = some [encX x] := by rw [zQ0, hy]; rfl
       have hjl := (zI.1 hy).1
       refine qN <| zB ?_
       rcases Nat.lt_or_eq_of_le hj with hjm | hjm
       ·
        refine qR rfl <| qM rfl rfl rfl <| qM rfl rfl rfl <| qO rfl <| ((hyt j _ hjm hy).at0 rfl rfl rfl).mono ?_
        rintro _ _ ⟨rfl, rfl⟩
        refine qO rfl <| zG1 rfl rfl <| qN <| zL rfl (rfl) <| zA0 ?_
        refine ⟨⟨j + 1, _, _⟩, by dsimp only; omega, ⟨by dsimp only; omega, by dsimp only; omega, by dsimp only; omega, hnx⟩, rfl, (.keep rfl (.keep rfl (.keep rfl (.nil)))), (.eq rfl (rfl) (.eq rfl (rfl) (.nil)))⟩
       ·
        refine qR rfl <| qM rfl rfl rfl <| qM rfl rfl rfl <| qO rfl <| ((hyf j _ hjm hy).at0 rfl rfl rfl).mono ?_
        rintro _ _ ⟨rfl, rfl⟩
        refine qO rfl <| zG1 rfl rfl <| qN <| zW rfl (rfl) ?_
        refine zY1 fun hcv hcl => ?_
        refine zK ?_
        exact zQ2 (S' := T (j + 1)) (by simp) zF2 (by rw [(hok _).1, (hok _).1]; exact Nat.le_refl _) hcl ⟨rfl, by rw [hjm, if_pos (by omega)]⟩
   ·
    have hia2 : ¬ i < a.length := by rw [zC] at h35; simp at h35; omega
    refine dS rfl rfl <| dS rfl rfl <| dS rfl rfl <| dS rfl rfl <| dS rfl rfl <| dS rfl rfl <| dS rfl rfl <| dS rfl rfl <| dS rfl rfl <| dO rfl rfl rfl (zE1 rfl rfl rfl ⟨rfl, rfl⟩) <| dO rfl rfl rfl (zE1 rfl rfl rfl ⟨rfl, rfl⟩) <| dO rfl rfl rfl (zB1 rfl rfl ⟨rfl, rfl⟩) <| zL0 <| zL rfl (rfl) <| zB ?_
    refine zU0 [] [_] mo (by decide) rfl rfl rfl rfl ?_
    refine dO rfl rfl rfl (zV rfl rfl ⟨rfl, rfl⟩) <| dO rfl rfl rfl (zT rfl rfl ((hok _).2.1) ta120 rfl ⟨rfl, rfl⟩) <| dO rfl rfl rfl (zT1 rfl zJ0 rfl ⟨rfl, rfl⟩) <| dO rfl rfl rfl (zE2 rfl rfl rfl rfl ⟨rfl, rfl⟩) <| dO rfl rfl rfl (zV rfl rfl ⟨rfl, rfl⟩) ?_
    refine zH2 (fun h58 => ?_) (fun h58 => ?_)
    ·
     have hia3 : i = a.length := by rw [zC] at h58; simp at h58; omega
     refine dS rfl rfl <| dS rfl rfl <| dS rfl rfl <| dS rfl rfl <| dS rfl rfl <| dS rfl rfl <| dS rfl rfl <| dS rfl rfl <| dS rfl rfl <| dO rfl rfl rfl (zE1 rfl rfl rfl ⟨rfl, rfl⟩) <| dO rfl rfl rfl (zB1 rfl rfl ⟨rfl, rfl⟩) <| zL0 <| zW rfl (rfl) <| zB ?_
     obtain ⟨y, hs2⟩ : ∃ q, b[k]? = some q := ⟨_, zD (by omega)⟩
     have hgy := zM2 (d := []) hs2
     refine qR rfl <| qO rfl <| zT rfl rfl ((hok _).2.2) ta120 rfl <| qM rfl rfl rfl <| qO rfl <| zG rfl zJ0 sz9 (by decide) rfl rfl rfl (zV0 hs2) ?_
     refine qO rfl <| zH rfl rfl ta9 rfl <| qA rfl rfl rfl <| qN <| qR rfl <| qM rfl rfl rfl <| qO rfl <| zY0 rfl rfl rfl (wadd (a := k) (b := 1) rfl (by omega)) ?_
     refine qA rfl rfl rfl ?_
     have hnx := he
     rw [both_B (by omega) (by omega) (by first | exact .inl hia3 | exact .inr ⟨hlt, hgt⟩ | exact .inl (by omega)), hgy] at hnx
     obtain ⟨hy, hnx⟩ := zQ1 hnx
     replace hy : ((bothX a b).map fun x => [encX x])[j]? = some [encX y] := by rw [zQ0, hy]; rfl
     have hjl := (zI.1 hy).1
     refine qN <| zB ?_
     rcases Nat.lt_or_eq_of_le hj with hjm | hjm
     ·
      refine qR rfl <| qM rfl rfl rfl <| qM rfl rfl rfl <| qO rfl <| ((hyt j _ hjm hy).at0 rfl rfl rfl).mono ?_
      rintro _ _ ⟨rfl, rfl⟩
      refine qO rfl <| zG1 rfl rfl <| qN <| zL rfl (rfl) <| zA0 ?_
      refine ⟨⟨j + 1, _, _⟩, by dsimp only; omega, ⟨by dsimp only; omega, by dsimp only; omega, by dsimp only; omega, hnx⟩, rfl, (.keep rfl (.keep rfl (.keep rfl (.nil)))), (.eq rfl (rfl) (.eq rfl (rfl) (.nil)))⟩
     ·
      refine qR rfl <| qM rfl rfl rfl <| qM rfl rfl rfl <| qO rfl <| ((hyf j _ hjm hy).at0 rfl rfl rfl).mono ?_
      rintro _ _ ⟨rfl, rfl⟩
      refine qO rfl <| zG1 rfl rfl <| qN <| zW rfl (rfl) ?_
      refine zY1 fun hcv hcl => ?_
      refine zK ?_
      exact zQ2 (S' := T (j + 1)) (by simp) zF2 (by rw [(hok _).1, (hok _).1]; exact Nat.le_refl _) hcl ⟨rfl, by rw [hjm, if_pos (by omega)]⟩
    ·
     have hia3 : ¬ i = a.length := by rw [zC] at h58; simp at h58; omega
     obtain ⟨x, hs⟩ : ∃ q, a[i]? = some q := ⟨_, zD (by omega)⟩
     have hgx := zM2 (d := []) hs
     obtain ⟨y, hs2⟩ : ∃ q, b[k]? = some q := ⟨_, zD (by omega)⟩
     have hgy := zM2 (d := []) hs2
     refine dO rfl rfl rfl (zT rfl rfl ((hok _).2.2) ta120 rfl ⟨rfl, rfl⟩) <| dO rfl rfl rfl (zV rfl rfl ⟨rfl, rfl⟩) <| dO rfl rfl rfl (zG rfl zJ0 sz9 (by decide) rfl rfl rfl (zV0 hs2) ⟨rfl, rfl⟩) ?_
     refine dO rfl rfl rfl (zH rfl rfl ta9 rfl ⟨rfl, rfl⟩) <| dO rfl rfl rfl (zT rfl rfl ((hok _).2.1) ta120 rfl ⟨rfl, rfl⟩) <| dO rfl rfl rfl (zV rfl rfl ⟨rfl, rfl⟩) <| dO rfl rfl rfl (zG rfl zJ0 sz9 (by decide) rfl rfl rfl (zV0 hs) ⟨rfl, rfl⟩) ?_
     refine dO rfl rfl rfl (zH rfl rfl ta9 rfl ⟨rfl, rfl⟩) <| dO rfl rfl rfl (zG3 rfl rfl rfl rfl ⟨rfl, rfl⟩) <| dO rfl rfl rfl (zE1 rfl rfl rfl ⟨rfl, rfl⟩) <| dO rfl rfl rfl (zB1 rfl rfl ⟨rfl, rfl⟩) <| zL0 ?_
     refine zJ rfl (fun h53 => ?_) (fun h53 => ?_)
     ·
      have hgt : Op.bytesLess (b.getD k []) (a.getD i []) = true := by rw [hgx, hgy]; simpa using h53
      refine zB ?_
      obtain ⟨y, hs2⟩ : ∃ q, b[k]? = some q := ⟨_, zD (by omega)⟩
      have hgy := zM2 (d := []) hs2
      refine qR rfl <| qO rfl <| zT rfl rfl ((hok _).2.2) ta120 rfl <| qM rfl rfl rfl <| qO rfl <| zG rfl zJ0 sz9 (by decide) rfl rfl rfl (zV0 hs2) ?_
      refine qO rfl <| zH rfl rfl ta9 rfl <| qA rfl rfl rfl <| qN <| qR rfl <| qM rfl rfl rfl <| qO rfl <| zY0 rfl rfl rfl (wadd (a := k) (b := 1) rfl (by omega)) ?_
      refine qA rfl rfl rfl ?_
      have hnx := he
      rw [both_B (by omega) (by omega) (by first | exact .inl hia3 | exact .inr ⟨hlt, hgt⟩ | exact .inl (by omega)), hgy] at hnx
      obtain ⟨hy, hnx⟩ := zQ1 hnx
      replace hy : ((bothX a b).map fun x => [encX x])[j]? = some [encX y] := by rw [zQ0, hy]; rfl
      have hjl := (zI.1 hy).1
      refine qN <| zB ?_
      rcases Nat.lt_or_eq_of_le hj with hjm | hjm
      ·
       refine qR rfl <| qM rfl rfl rfl <| qM rfl rfl rfl <| qO rfl <| ((hyt j _ hjm hy).at0 rfl rfl rfl).mono ?_
       rintro _ _ ⟨rfl, rfl⟩
       refine qO rfl <| zG1 rfl rfl <| qN <| zL rfl (rfl) <| zA0 ?_
       refine ⟨⟨j + 1, _, _⟩, by dsimp only; omega, ⟨by dsimp only; omega, by dsimp only; omega, by dsimp only; omega, hnx⟩, rfl, (.keep rfl (.keep rfl (.keep rfl (.nil)))), (.eq rfl (rfl) (.eq rfl (rfl) (.nil)))⟩
      ·
       refine qR rfl <| qM rfl rfl rfl <| qM rfl rfl rfl <| qO rfl <| ((hyf j _ hjm hy).at0 rfl rfl rfl).mono ?_
       rintro _ _ ⟨rfl, rfl⟩
       refine qO rfl <| zG1 rfl rfl <| qN <| zW rfl (rfl) ?_
       refine zY1 fun hcv hcl => ?_
       refine zK ?_
       exact zQ2 (S' := T (j + 1)) (by simp) zF2 (by rw [(hok _).1, (hok _).1]; exact Nat.le_refl _) hcl ⟨rfl, by rw [hjm, if_pos (by omega)]⟩
     ·
      have hgt : Op.bytesLess (b.getD k []) (a.getD i []) = false := by rw [hgx, hgy]; simpa using h53
      refine zB ?_
      obtain ⟨x, hs⟩ : ∃ q, a[i]? = some q := ⟨_, zD (by omega)⟩
      have hgx := zM2 (d := []) hs
      refine qR rfl <| qO rfl <| zT rfl rfl ((hok _).2.1) ta120 rfl <| qM rfl rfl rfl <| qO rfl <| zG rfl zJ0 sz9 (by decide) rfl rfl rfl (zV0 hs) ?_
      refine qO rfl <| zH rfl rfl ta9 rfl <| qA rfl rfl rfl <| qN <| qR rfl <| qM rfl rfl rfl <| qO rfl <| zY0 rfl rfl rfl (wadd (a := i) (b := 1) rfl (by omega)) ?_
      refine qM rfl rfl rfl <| qO rfl <| zY0 rfl rfl rfl (wadd (a := k) (b := 1) rfl (by omega)) ?_
      refine qA rfl rfl rfl <| qA rfl rfl rfl ?_
      have hnx := he
      rw [both_C (by omega) (by omega) (by first | exact hlt | (exfalso; omega)) hgt, hgx] at hnx
      obtain ⟨hy, hnx⟩ := zQ1 hnx
      replace hy : ((bothX a b).map fun x => [encX x])[j]? = some [encX x] := by rw [zQ0, hy]; rfl
      have hjl := (zI.1 hy).1
      refine qN <| zB ?_
      rcases Nat.lt_or_eq_of_le hj with hjm | hjm
      ·
       refine qR rfl <| qM rfl rfl rfl <| qM rfl rfl rfl <| qO rfl <| ((hyt j _ hjm hy).at0 rfl rfl rfl).mono ?_
       rintro _ _ ⟨rfl, rfl⟩
       refine qO rfl <| zG1 rfl rfl <| qN <| zL rfl (rfl) <| zA0 ?_
       refine ⟨⟨j + 1, _, _⟩, by dsimp only; omega, ⟨by dsimp only; omega, by dsimp only; omega, by dsimp only; omega, hnx⟩, rfl, (.keep rfl (.keep rfl (.keep rfl (.nil)))), (.eq rfl (rfl) (.eq rfl (rfl) (.nil)))⟩
      ·
       refine qR rfl <| qM rfl rfl rfl <| qM rfl rfl rfl <| qO rfl <| ((hyf j _ hjm hy).at0 rfl rfl rfl).mono ?_
       rintro _ _ ⟨rfl, rfl⟩
       refine qO rfl <| zG1 rfl rfl <| qN <| zW rfl (rfl) ?_
       refine zY1 fun hcv hcl => ?_
       refine zK ?_
       exact zQ2 (S' := T (j + 1)) (by simp) zF2 (by rw [(hok _).1, (hok _).1]; exact Nat.le_refl _) hcl ⟨rfl, by rw [hjm, if_pos (by omega)]⟩
 ·
  have hia : ¬ i < a.length := by rw [zC] at h11; simp at h11; omega
  refine qM rfl rfl rfl <| qO rfl <| zT rfl rfl ((hok _).2.2) ta120 rfl <| qE rfl rfl zJ0 rfl <| qC rfl rfl rfl rfl rfl <| qP rfl rfl rfl rfl <| qN ?_
  refine zJ rfl (fun h16 => ?_) (fun h16 => ?_)
  ·
   have hkb : k < b.length := by rw [zC] at h16; simpa using h16
   refine zA0 <| zB0 <| zB <| qR rfl <| qA rfl rfl rfl <| qN <| zB <| zB0 <| zB ?_
   refine zU0 [] [_] mo (by decide) rfl rfl rfl rfl ?_
   refine dO rfl rfl rfl (zV rfl rfl ⟨rfl, rfl⟩) <| dO rfl rfl rfl (zT rfl rfl ((hok _).2.2) ta120 rfl ⟨rfl, rfl⟩) <| dO rfl rfl rfl (zT1 rfl zJ0 rfl ⟨rfl, rfl⟩) <| dO rfl rfl rfl (zE2 rfl rfl rfl rfl ⟨rfl, rfl⟩) <| dO rfl rfl rfl (zV rfl rfl ⟨rfl, rfl⟩) ?_
   refine zH2 (fun h30 => ?_) (fun h30 => ?_)
   ·
    have hk2 : k = b.length := by rw [zC] at h30; simp at h30; omega
    refine dS rfl rfl <| dS rfl rfl <| dS rfl rfl <| dS rfl rfl <| dS rfl rfl <| dS rfl rfl <| dS rfl rfl <| dS rfl rfl <| dS rfl rfl <| dS rfl rfl <| dS rfl rfl <| dS rfl rfl <| dS rfl rfl <| dS rfl rfl <| dS rfl rfl <| dO rfl rfl rfl (zE1 rfl rfl rfl ⟨rfl, rfl⟩) <| dO rfl rfl rfl (zB1 rfl rfl ⟨rfl, rfl⟩) <| zL0 <| zW rfl (rfl) <| zB ?_
    obtain ⟨x, hs⟩ : ∃ q, a[i]? = some q := ⟨_, zD (by omega)⟩
    have hgx := zM2 (d := []) hs
    refine qR rfl <| qO rfl <| zT rfl rfl ((hok _).2.1) ta120 rfl <| qM rfl rfl rfl <| qO rfl <| zG rfl zJ0 sz9 (by decide) rfl rfl rfl (zV0 hs) ?_
    refine qO rfl <| zH rfl rfl ta9 rfl <| qA rfl rfl rfl <| qN <| qR rfl <| qM rfl rfl rfl <| qO rfl <| zY0 rfl rfl rfl (wadd (a := i) (b := 1) rfl (by omega)) ?_
    refine qA rfl rfl rfl ?_
    have hnx := he
    rw [both_A (by omega) (by omega) (by first | exact .inl hk2 | exact .inr hlt), hgx] at hnx
    obtain ⟨hy, hnx⟩ := zQ1 hnx
    replace hy : ((bothX a b).map fun x => [encX x])[j]? = some [encX x] := by rw [zQ0, hy]; rfl
    have hjl := (zI.1 hy).1
    refine qN <| zB ?_
    rcases Nat.lt_or_eq_of_le hj with hjm | hjm
    ·
     refine qR rfl <| qM rfl rfl rfl <| qM rfl rfl rfl <| qO rfl <| ((hyt j _ hjm hy).at0 rfl rfl rfl).mono ?_
     rintro _ _ ⟨rfl, rfl⟩
     refine qO rfl <| zG1 rfl rfl <| qN <| zL rfl (rfl) <| zA0 ?_
     refine ⟨⟨j + 1, _, _⟩, by dsimp only; omega, ⟨by dsimp only; omega, by dsimp only; omega, by dsimp only; omega, hnx⟩, rfl, (.keep rfl (.keep rfl (.keep rfl (.nil)))), (.eq rfl (rfl) (.eq rfl (rfl) (.nil)))⟩
    ·
     refine qR rfl <| qM rfl rfl rfl <| qM rfl rfl rfl <| qO rfl <| ((hyf j _ hjm hy).at0 rfl rfl rfl).mono ?_
     rintro _ _ ⟨rfl, rfl⟩
     refine qO rfl <| zG1 rfl rfl <| qN <| zW rfl (rfl) ?_
     refine zY1 fun hcv hcl => ?_
     refine zK ?_
     exact zQ2 (S' := T (j + 1)) (by simp) zF2 (by rw [(hok _).1, (hok _).1]; exact Nat.le_refl _) hcl ⟨rfl, by rw [hjm, if_pos (by omega)]⟩
   ·
    have hk2 : ¬ k = b.length := by rw [zC] at h30; simp at h30; omega
    refine dO rfl rfl rfl (zV rfl rfl ⟨rfl, rfl⟩) <| dO rfl rfl rfl (zT rfl rfl ((hok _).2.1) ta120 rfl ⟨rfl, rfl⟩) <| dO rfl rfl rfl (zT1 rfl zJ0 rfl ⟨rfl, rfl⟩) <| dO rfl rfl rfl (zE2 rfl rfl rfl rfl ⟨rfl, rfl⟩) <| dO rfl rfl rfl (zV rfl rfl ⟨rfl, rfl⟩) ?_
    refine zH2 (fun h35 => ?_) (fun h35 => ?_)
    ·
     have hia2 : i < a.length := by rw [zC] at h35; simpa using h35
     obtain ⟨x, hs⟩ : ∃ q, a[i]? = some q := ⟨_, zD (by omega)⟩
     have hgx := zM2 (d := []) hs
     obtain ⟨y, hs2⟩ : ∃ q, b[k]? = some q := ⟨_, zD (by omega)⟩
     have hgy := zM2 (d := []) hs2
     refine dO rfl rfl rfl (zT rfl rfl ((hok _).2.1) ta120 rfl ⟨rfl, rfl⟩) <| dO rfl rfl rfl (zV rfl rfl ⟨rfl, rfl⟩) <| dO rfl rfl rfl (zG rfl zJ0 sz9 (by decide) rfl rfl rfl (zV0 hs) ⟨rfl, rfl⟩) ?_
     refine dO rfl rfl rfl (zH rfl rfl ta9 rfl ⟨rfl, rfl⟩) <| dO rfl rfl rfl (zT rfl rfl ((hok _).2.2) ta120 rfl ⟨rfl, rfl⟩) <| dO rfl rfl rfl (zV rfl rfl ⟨rfl, rfl⟩) <| dO rfl rfl rfl (zG rfl zJ0 sz9 (by decide) rfl rfl rfl (zV0 hs2) ⟨rfl, rfl⟩) ?_
     refine dO rfl rfl rfl (zH rfl rfl ta9 rfl ⟨rfl, rfl⟩) <| dO rfl rfl rfl (zG3 rfl rfl rfl rfl ⟨rfl, rfl⟩) <| dO rfl rfl rfl (zE1 rfl rfl rfl ⟨rfl, rfl⟩) <| dO rfl rfl rfl (zE1 rfl rfl rfl ⟨rfl, rfl⟩) <| dO rfl rfl rfl (zB1 rfl rfl ⟨rfl, rfl⟩) <| zL0 ?_
     refine zJ rfl (fun h25 => ?_) (fun h25 => ?_)
     ·
      have hlt : Op.bytesLess (a.getD i []) (b.getD k []) = true := by rw [hgx, hgy]; simpa using h25
      refine zB ?_
      obtain ⟨x, hs⟩ : ∃ q, a[i]? = some q := ⟨_, zD (by omega)⟩
      have hgx := zM2 (d := []) hs
      refine qR rfl <| qO rfl <| zT rfl rfl ((hok _).2.1) ta120 rfl <| qM rfl rfl rfl <| qO rfl <| zG rfl zJ0 sz9 (by decide) rfl rfl rfl (zV0 hs) ?_
      refine qO rfl <| zH rfl rfl ta9 rfl <| qA rfl rfl rfl <| qN <| qR rfl <| qM rfl rfl rfl <| qO rfl <| zY0 rfl rfl rfl (wadd (a := i) (b := 1) rfl (by omega)) ?_
      refine qA rfl rfl rfl ?_
      have hnx := he
      rw [both_A (by omega) (by omega) (by first | exact .inl hk2 | exact .inr hlt), hgx] at hnx
      obtain ⟨hy, hnx⟩ := zQ1 hnx
      replace hy : ((bothX a b).map fun x => [encX x])[j]? = some [encX x] := by rw [zQ0, hy]; rfl
      have hjl := (zI.1 hy).1
      refine qN <| zB ?_
      rcases Nat.lt_or_eq_of_le hj with hjm | hjm
      ·
       refine qR rfl <| qM rfl rfl rfl <| qM rfl rfl rfl <| qO rfl <| ((hyt j _ hjm hy).at0 rfl rfl rfl).mono ?_
       rintro _ _ ⟨rfl, rfl⟩
       refine qO rfl <| zG1 rfl rfl <| qN <| zL rfl (rfl) <| zA0 ?_
       refine ⟨⟨j + 1, _, _⟩, by dsimp only; omega, ⟨by dsimp only; omega, by dsimp only; omega, by dsimp only; omega, hnx⟩, rfl, (.keep rfl (.keep rfl (.keep rfl (.nil)))), (.eq rfl (rfl) (.eq rfl (rfl) (.nil)))⟩
      ·
       refine qR rfl <| qM rfl rfl rfl <| qM rfl rfl rfl <| qO rfl <| ((hyf j _ hjm hy).at0 rfl rfl rfl).mono ?_
       rintro _ _ ⟨rfl, rfl⟩
       refine qO rfl <| zG1 rfl rfl <| qN <| zW rfl (rfl) ?_
       refine zY1 fun hcv hcl => ?_
       refine zK ?_
       exact zQ2 (S' := T (j + 1)) (by simp) zF2 (by rw [(hok _).1, (hok _).1]; exact Nat.le_refl _) hcl ⟨rfl, by rw [hjm, if_pos (by omega)]⟩
     ·
      have hlt : Op.bytesLess (a.getD i []) (b.getD k []) = false := by rw [hgx, hgy]; simpa using h25
      refine zB ?_
      refine zU0 [] [_] mo (by decide) rfl rfl rfl rfl ?_
      refine dO rfl rfl rfl (zV rfl rfl ⟨rfl, rfl⟩) <| dO rfl rfl rfl (zT rfl rfl ((hok _).2.1) ta120 rfl ⟨rfl, rfl⟩) <| dO rfl rfl rfl (zT1 rfl zJ0 rfl ⟨rfl, rfl⟩) <| dO rfl rfl rfl (zE2 rfl rfl rfl rfl ⟨rfl, rfl⟩) <| dO rfl rfl rfl (zV rfl rfl ⟨rfl, rfl⟩) ?_
      refine zH2 (fun h58 => ?_) (fun h58 => ?_)
      ·
       have hia3 : i = a.length := by rw [zC] at h58; simp at h58; omega
       refine dS rfl rfl <| dS rfl rfl <| dS rfl rfl <| dS rfl rfl <| dS rfl rfl <| dS rfl rfl <| dS rfl rfl <| dS rfl rfl <| dS rfl rfl <| dO rfl rfl rfl (zE1 rfl rfl rfl ⟨rfl, rfl⟩) <| dO rfl rfl rfl (zB1 rfl rfl ⟨rfl, rfl⟩) <| zL0 <| zW rfl (rfl) <| zB ?_
       obtain ⟨y, hs2⟩ : ∃ q, b[k]? = some q := ⟨_, zD (by omega)⟩
       have hgy := zM2 (d := []) hs2
       refine qR rfl <| qO rfl <| zT rfl rfl ((hok _).2.2) ta120 rfl <| qM rfl rfl rfl <| qO rfl <| zG rfl zJ0 sz9 (by decide) rfl rfl rfl (zV0 hs2) ?_
       refine qO rfl <| zH rfl rfl ta9 rfl <| qA rfl rfl rfl <| qN <| qR rfl <| qM rfl rfl rfl <| qO rfl <| zY0 rfl rfl rfl (wadd (a := k) (b := 1) rfl (by omega)) ?_
       refine qA rfl rfl rfl ?_
       have hnx := he
       rw [both_B (by omega) (by omega) (by first | exact .inl hia3 | exact .inr ⟨hlt, hgt⟩ | exact .inl (by omega)), hgy] at hnx
       obtain ⟨hy, hnx⟩ := zQ1 hnx
       replace hy : ((bothX a b).map fun x => [encX x])[j]? = some [encX y] := by rw [zQ0, hy]; rfl
       have hjl := (zI.1 hy).1
       refine qN <| zB ?_
       rcases Nat.lt_or_eq_of_le hj with hjm | hjm
       ·
        refine qR rfl <| qM rfl rfl rfl <| qM rfl rfl rfl <| qO rfl <| ((hyt j _ hjm hy).at0 rfl rfl rfl).mono ?_
        rintro _ _ ⟨rfl, rfl⟩
        refine qO rfl <| zG1 rfl rfl <| qN <| zL rfl (rfl) <| zA0 ?_
        refine ⟨⟨j + 1, _, _⟩, by dsimp only; omega, ⟨by dsimp only; omega, by dsimp only; omega, by dsimp only; omega, hnx⟩, rfl, (.keep rfl (.keep rfl (.keep rfl (.nil)))), (.eq rfl (rfl) (.eq rfl (rfl) (.nil)))⟩
       ·
        refine qR rfl <| qM rfl rfl rfl <| qM rfl rfl rfl <| qO rfl <| ((hyf j _ hjm hy).at0 rfl rfl rfl).mono ?_
        rintro _ _ ⟨rfl, rfl⟩
        refine qO rfl <| zG1 rfl rfl <| qN <| zW rfl (rfl) ?_
        refine zY1 fun hcv hcl => ?_
        refine zK ?_
        exact zQ2 (S' := T (j + 1)) (by simp) zF2 (by rw [(hok _).1, (hok _).1]; exact Nat.le_refl _) hcl ⟨rfl, by rw [hjm, if_pos (by omega)]⟩
      ·
       have hia3 : ¬ i = a.length := by rw [zC] at h58; simp at h58; omega
       obtain ⟨x, hs⟩ : ∃ q, a[i]? = some q := ⟨_, zD (by omega)⟩
       have hgx := zM2 (d := []) hs
       obtain ⟨y, hs2⟩ : ∃ q, b[k]? = some q := ⟨_, zD (by omega)⟩
       have hgy := zM2 (d := []) hs2
       refine dO rfl rfl rfl (zT rfl rfl ((hok _).2.2) ta120 rfl ⟨rfl, rfl⟩) <| dO rfl rfl rfl (zV rfl rfl ⟨rfl, rfl⟩) <| dO rfl rfl rfl (zG rfl zJ0 sz9 (by decide) rfl rfl rfl (zV0 hs2) ⟨rfl, rfl⟩) ?_
       refine dO rfl rfl rfl (zH rfl rfl ta9 rfl ⟨rfl, rfl⟩) <| dO rfl rfl rfl (zT rfl rfl ((hok _).2.1) ta120 rfl ⟨rfl, rfl⟩) <| dO rfl rfl rfl (zV rfl rfl ⟨rfl, rfl⟩) <| dO rfl rfl rfl (zG rfl zJ0 sz9 (by decide) rfl rfl rfl (zV0 hs) ⟨rfl, rfl⟩) ?_
       refine dO rfl rfl rfl (zH rfl rfl ta9 rfl ⟨rfl, rfl⟩) <| dO rfl rfl rfl (zG3 rfl rfl rfl rfl ⟨rfl, rfl⟩) <| dO rfl rfl rfl (zE1 rfl rfl rfl ⟨rfl, rfl⟩) <| dO rfl rfl rfl (zB1 rfl rfl ⟨rfl, rfl⟩) <| zL0 ?_
       refine zJ rfl (fun h53 => ?_) (fun h53 => ?_)
       ·
        have hgt : Op.bytesLess (b.getD k []) (a.getD i []) = true := by rw [hgx, hgy]; simpa using h53
        refine zB ?_
        obtain ⟨y, hs2⟩ : ∃ q, b[k]? = some q := ⟨_, zD (by omega)⟩
        have hgy := zM2 (d := []) hs2
        refine qR rfl <| qO rfl <| zT rfl rfl ((hok _).2.2) ta120 rfl <| qM rfl rfl rfl <| qO rfl <| zG rfl zJ0 sz9 (by decide) rfl rfl rfl (zV0 hs2) ?_
        refine qO rfl <| zH rfl rfl ta9 rfl <| qA rfl rfl rfl <| qN <| qR rfl <| qM rfl rfl rfl <| qO rfl <| zY0 rfl rfl rfl (wadd (a := k) (b := 1) rfl (by omega)) ?_
        refine qA rfl rfl rfl ?_
        have hnx := he
        rw [both_B (by omega) (by omega) (by first | exact .inl hia3 | exact .inr ⟨hlt, hgt⟩ | exact .inl (by omega)), hgy] at hnx
        obtain ⟨hy, hnx⟩ := zQ1 hnx
        replace hy : ((bothX a b).map fun x => [encX x])[j]? = some [encX y] := by rw [zQ0, hy]; rfl
        have hjl := (zI.1 hy).1
        refine qN <| zB ?_
        rcases Nat.lt_or_eq_of_le hj with hjm | hjm
        ·
         refine qR rfl <| qM rfl rfl rfl <| qM rfl rfl rfl <| qO rfl <| ((hyt j _ hjm hy).at0 rfl rfl rfl).mono ?_
         rintro _ _ ⟨rfl, rfl⟩
         refine qO rfl <| zG1 rfl rfl <| qN <| zL rfl (rfl) <| zA0 ?_
         refine ⟨⟨j + 1, _, _⟩, by dsimp only; omega, ⟨by dsimp only; omega, by dsimp only; omega, by dsimp only; omega, hnx⟩, rfl, (.keep rfl (.keep rfl (.keep rfl (.nil)))), (.eq rfl (rfl) (.eq rfl (rfl) (.nil)))⟩
        ·
         refine qR rfl <| qM rfl rfl rfl <| qM rfl rfl rfl <| qO rfl <| ((hyf j _ hjm hy).at0 rfl rfl rfl).mono ?_
         rintro _ _ ⟨rfl, rfl⟩
         refine qO rfl <| zG1 rfl rfl <| qN <| zW rfl (rfl) ?_
         refine zY1 fun hcv hcl => ?_
         refine zK ?_
         exact zQ2 (S' := T (j + 1)) (by simp) zF2 (by rw [(hok _).1, (hok _).1]; exact Nat.le_refl _) hcl ⟨rfl, by rw [hjm, if_pos (by omega)]⟩
       ·
        have hgt : Op.bytesLess (b.getD k []) (a.getD i []) = false := by rw [hgx, hgy]; simpa using h53
        refine zB ?_
        obtain ⟨x, hs⟩ : ∃ q, a[i]? = some q := ⟨_, zD (by omega)⟩
        have hgx := zM2 (d := []) hs
        refine qR rfl <| qO rfl <| zT rfl rfl ((hok _).2.1) ta120 rfl <| qM rfl rfl rfl <| qO rfl <| zG rfl zJ0 sz9 (by decide) rfl rfl rfl (zV0 hs) ?_
        refine qO rfl <| zH rfl rfl ta9 rfl <| qA rfl rfl rfl <| qN <| qR rfl <| qM rfl rfl rfl <| qO rfl <| zY0 rfl rfl rfl (wadd (a := i) (b := 1) rfl (by omega)) ?_
        refine qM rfl rfl rfl <| qO rfl <| zY0 rfl rfl rfl (wadd (a := k) (b := 1) rfl (by omega)) ?_
        refine qA rfl rfl rfl <| qA rfl rfl rfl ?_
        have hnx := he
        rw [both_C (by omega) (by omega) (by first | exact hlt | (exfalso; omega)) hgt, hgx] at hnx
        obtain ⟨hy, hnx⟩ := zQ1 hnx
        replace hy : ((bothX a b).map fun x => [encX x])[j]? = some [encX x] := by rw [zQ0, hy]; rfl
        have hjl := (zI.1 hy).1
        refine qN <| zB ?_
        rcases Nat.lt_or_eq_of_le hj with hjm | hjm
        ·
         refine qR rfl <| qM rfl rfl rfl <| qM rfl rfl rfl <| qO rfl <| ((hyt j _ hjm hy).at0 rfl rfl rfl).mono ?_
         rintro _ _ ⟨rfl, rfl⟩
         refine qO rfl <| zG1 rfl rfl <| qN <| zL rfl (rfl) <| zA0 ?_
         refine ⟨⟨j + 1, _, _⟩, by dsimp only; omega, ⟨by dsimp only; omega, by dsimp only; omega, by dsimp only; omega, hnx⟩, rfl, (.keep rfl (.keep rfl (.keep rfl (.nil)))), (.eq rfl (rfl) (.eq rfl (rfl) (.nil)))⟩
        ·
         refine qR rfl <| qM rfl rfl rfl <| qM rfl rfl rfl <| qO rfl <| ((hyf j _ hjm hy).at0 rfl rfl rfl).mono ?_
         rintro _ _ ⟨rfl, rfl⟩
         refine qO rfl <| zG1 rfl rfl <| qN <| zW rfl (rfl) ?_
         refine zY1 fun hcv hcl => ?_
         refine zK ?_
         exact zQ2 (S' := T (j + 1)) (by simp) zF2 (by rw [(hok _).1, (hok _).1]; exact Nat.le_refl _) hcl ⟨rfl, by rw [hjm, if_pos (by omega)]⟩
    ·
     have hia2 : ¬ i < a.length := by rw [zC] at h35; simp at h35; omega
     refine dS rfl rfl <| dS rfl rfl <| dS rfl rfl <| dS rfl rfl <| dS rfl rfl <| dS rfl rfl <| dS rfl rfl <| dS rfl rfl <| dS rfl rfl <| dO rfl rfl rfl (zE1 rfl rfl rfl ⟨rfl, rfl⟩) <| dO rfl rfl rfl (zE1 rfl rfl rfl ⟨rfl, rfl⟩) <| dO rfl rfl rfl (zB1 rfl rfl ⟨rfl, rfl⟩) <| zL0 <| zL rfl (rfl) <| zB ?_
     refine zU0 [] [_] mo (by decide) rfl rfl rfl rfl ?_
     refine dO rfl rfl rfl (zV rfl rfl ⟨rfl, rfl⟩) <| dO rfl rfl rfl (zT rfl rfl ((hok _).2.1) ta120 rfl ⟨rfl, rfl⟩) <| dO rfl rfl rfl (zT1 rfl zJ0 rfl ⟨rfl, rfl⟩) <| dO rfl rfl rfl (zE2 rfl rfl rfl rfl ⟨rfl, rfl⟩) <| dO rfl rfl rfl (zV rfl rfl ⟨rfl, rfl⟩) ?_
     refine zH2 (fun h58 => ?_) (fun h58 => ?_)
     ·
      have hia3 : i = a.length := by rw [zC] at h58; simp at h58; omega
      refine dS rfl rfl <| dS rfl rfl <| dS rfl rfl <| dS rfl rfl <| dS rfl rfl <| dS rfl rfl <| dS rfl rfl <| dS rfl rfl <| dS rfl rfl <| dO rfl rfl rfl (zE1 rfl rfl rfl ⟨rfl, rfl⟩) <| dO rfl rfl rfl (zB1 rfl rfl ⟨rfl, rfl⟩) <| zL0 <| zW rfl (rfl) <| zB ?_
      obtain ⟨y, hs2⟩ : ∃ q, b[k]? = some q := ⟨_, zD (by omega)⟩
      have hgy := zM2 (d := []) hs2
      refine qR rfl <| qO rfl <| zT rfl rfl ((hok _).2.2) ta120 rfl <| qM rfl rfl rfl <| qO rfl <| zG rfl zJ0 sz9 (by decide) rfl rfl rfl (zV0 hs2) ?_
      refine qO rfl <| zH rfl rfl ta9 rfl <| qA rfl rfl rfl <| qN <| qR rfl <| qM rfl rfl rfl <| qO rfl <| zY0 rfl rfl rfl (wadd (a := k) (b := 1) rfl (by omega)) ?_
      refine qA rfl rfl rfl ?_
      have hnx := he
      rw [both_B (by omega) (by omega) (by first | exact .inl hia3 | exact .inr ⟨hlt, hgt⟩ | exact .inl (by omega)), hgy] at hnx
      obtain ⟨hy, hnx⟩ := zQ1 hnx
      replace hy : ((bothX a b).map fun x => [encX x])[j]? = some [encX y] := by rw [zQ0, hy]; rfl
      have hjl := (zI.1 hy).1
      refine qN <| zB ?_
      rcases Nat.lt_or_eq_of_le hj with hjm | hjm
      ·
       refine qR rfl <| qM rfl rfl rfl <| qM rfl rfl rfl <| qO rfl <| ((hyt j _ hjm hy).at0 rfl rfl rfl).mono ?_
       rintro _ _ ⟨rfl, rfl⟩
       refine qO rfl <| zG1 rfl rfl <| qN <| zL rfl (rfl) <| zA0 ?_
       refine ⟨⟨j + 1, _, _⟩, by dsimp only; omega, ⟨by dsimp only; omega, by dsimp only; omega, by dsimp only; omega, hnx⟩, rfl, (.keep rfl (.keep rfl (.keep rfl (.nil)))), (.eq rfl (rfl) (.eq rfl (rfl) (.nil)))⟩
      ·
       refine qR rfl <| qM rfl rfl rfl <| qM rfl rfl rfl <| qO rfl <| ((hyf j _ hjm hy).at0 rfl rfl rfl).mono ?_
       rintro _ _ ⟨rfl, rfl⟩
       refine qO rfl <| zG1 rfl rfl <| qN <| zW rfl (rfl) ?_
       refine zY1 fun hcv hcl => ?_
       refine zK ?_
       exact zQ2 (S' := T (j + 1)) (by simp) zF2 (by rw [(hok _).1, (hok _).1]; exact Nat.le_refl _) hcl ⟨rfl, by rw [hjm, if_pos (by omega)]⟩
     ·
      have hia3 : ¬ i = a.length := by rw [zC] at h58; simp at h58; omega
      obtain ⟨x, hs⟩ : ∃ q, a[i]? = some q := ⟨_, zD (by omega)⟩
      have hgx := zM2 (d := []) hs
      obtain ⟨y, hs2⟩ : ∃ q, b[k]? = some q := ⟨_, zD (by omega)⟩
      have hgy := zM2 (d := []) hs2
      refine dO rfl rfl rfl (zT rfl rfl ((hok _).2.2) ta120 rfl ⟨rfl, rfl⟩) <| dO rfl rfl rfl (zV rfl rfl ⟨rfl, rfl⟩) <| dO rfl rfl rfl (zG rfl zJ0 sz9 (by decide) rfl rfl rfl (zV0 hs2) ⟨rfl, rfl⟩) ?_
      refine dO rfl rfl rfl (zH rfl rfl ta9 rfl ⟨rfl, rfl⟩) <| dO rfl rfl rfl (zT rfl rfl ((hok _).2.1) ta120 rfl ⟨rfl, rfl⟩) <| dO rfl rfl rfl (zV rfl rfl ⟨rfl, rfl⟩) <| dO rfl rfl rfl (zG rfl zJ0 sz9 (by decide) rfl rfl rfl (zV0 hs) ⟨rfl, rfl⟩) ?_
      refine dO rfl rfl rfl (zH rfl rfl ta9 rfl ⟨rfl, rfl⟩) <| dO rfl rfl rfl (zG3 rfl rfl rfl rfl ⟨rfl, rfl⟩) <| dO rfl rfl rfl (zE1 rfl rfl rfl ⟨rfl, rfl⟩) <| dO rfl rfl rfl (zB1 rfl rfl ⟨rfl, rfl⟩) <| zL0 ?_
      refine zJ rfl (fun h53 => ?_) (fun h53 => ?_)
      ·
       have hgt : Op.bytesLess (b.getD k []) (a.getD i []) = true := by rw [hgx, hgy]; simpa using h53
       refine zB ?_
       obtain ⟨y, hs2⟩ : ∃ q, b[k]? = some q := ⟨_, zD (by omega)⟩
       have hgy := zM2 (d := []) hs2
       refine qR rfl <| qO rfl <| zT rfl rfl ((hok _).2.2) ta120 rfl <| qM rfl rfl rfl <| qO rfl <| zG rfl zJ0 sz9 (by decide) rfl rfl rfl (zV0 hs2) ?_
       refine qO rfl <| zH rfl rfl ta9 rfl <| qA rfl rfl rfl <| qN <| qR rfl <| qM rfl rfl rfl <| qO rfl <| zY0 rfl rfl rfl (wadd (a := k) (b := 1) rfl (by omega)) ?_
       refine qA rfl rfl rfl ?_
       have hnx := he
       rw [both_B (by omega) (by omega) (by first | exact .inl hia3 | exact .inr ⟨hlt, hgt⟩ | exact .inl (by omega)), hgy] at hnx
       obtain ⟨hy, hnx⟩ := zQ1 hnx
       replace hy : ((bothX a b).map fun x => [encX x])[j]? = some [encX y] := by rw [zQ0, hy]; rfl
       have hjl := (zI.1 hy).1
       refine qN <| zB ?_
       rcases Nat.lt_or_eq_of_le hj with hjm | hjm
       ·
        refine qR rfl <| qM rfl rfl rfl <| qM rfl rfl rfl <| qO rfl <| ((hyt j _ hjm hy).at0 rfl rfl rfl).mono ?_
        rintro _ _ ⟨rfl, rfl⟩
        refine qO rfl <| zG1 rfl rfl <| qN <| zL rfl (rfl) <| zA0 ?_
        refine ⟨⟨j + 1, _, _⟩, by dsimp only; omega, ⟨by dsimp only; omega, by dsimp only; omega, by dsimp only; omega, hnx⟩, rfl, (.keep rfl (.keep rfl (.keep rfl (.nil)))), (.eq rfl (rfl) (.eq rfl (rfl) (.nil)))⟩
       ·
        refine qR rfl <| qM rfl rfl rfl <| qM rfl rfl rfl <| qO rfl <| ((hyf j _ hjm hy).at0 rfl rfl rfl).mono ?_
        rintro _ _ ⟨rfl, rfl⟩
        refine qO rfl <| zG1 rfl rfl <| qN <| zW rfl (rfl) ?_
        refine zY1 fun hcv hcl => ?_
        refine zK ?_
        exact zQ2 (S' := T (j + 1)) (by simp) zF2 (by rw [(hok _).1, (hok _).1]; exact Nat.le_refl _) hcl ⟨rfl, by rw [hjm, if_pos (by omega)]⟩
      ·
       have hgt : Op.bytesLess (b.getD k []) (a.getD i []) = false := by rw [hgx, hgy]; simpa using h53
       refine zB ?_
       obtain ⟨x, hs⟩ : ∃ q, a[i]? = some q := ⟨_, zD (by omega)⟩
       have hgx := zM2 (d := []) hs
       refine qR rfl <| qO rfl <| zT rfl rfl ((hok _).2.1) ta120 rfl <| qM rfl rfl rfl <| qO rfl <| zG rfl zJ0 sz9 (by decide) rfl rfl rfl (zV0 hs) ?_
       refine qO rfl <| zH rfl rfl ta9 rfl <| qA rfl rfl rfl <| qN <| qR rfl <| qM rfl rfl rfl <| qO rfl <| zY0 rfl rfl rfl (wadd (a := i) (b := 1) rfl (by omega)) ?_
       refine qM rfl rfl rfl <| qO rfl <| zY0 rfl rfl rfl (wadd (a := k) (b := 1) rfl (by omega)) ?_
       refine qA rfl rfl rfl <| qA rfl rfl rfl ?_
       have hnx := he
       rw [both_C (by omega) (by omega) (by first | exact hlt | (exfalso; omega)) hgt, hgx] at hnx
       obtain ⟨hy, hnx⟩ := zQ1 hnx
       replace hy : ((bothX a b).map fun x => [encX x])[j]? = some [encX x] := by rw [zQ0, hy]; rfl
       have hjl := (zI.1 hy).1
       refine qN <| zB ?_
       rcases Nat.lt_or_eq_of_le hj with hjm | hjm
       ·
        refine qR rfl <| qM rfl rfl rfl <| qM rfl rfl rfl <| qO rfl <| ((hyt j _ hjm hy).at0 rfl rfl rfl).mono ?_
        rintro _ _ ⟨rfl, rfl⟩
        refine qO rfl <| zG1 rfl rfl <| qN <| zL rfl (rfl) <| zA0 ?_
        refine ⟨⟨j + 1, _, _⟩, by dsimp only; omega, ⟨by dsimp only; omega, by dsimp only; omega, by dsimp only; omega, hnx⟩, rfl, (.keep rfl (.keep rfl (.keep rfl (.nil)))), (.eq rfl (rfl) (.eq rfl (rfl) (.nil)))⟩
       ·
        refine qR rfl <| qM rfl rfl rfl <| qM rfl rfl rfl <| qO rfl <| ((hyf j _ hjm hy).at0 rfl rfl rfl).mono ?_
        rintro _ _ ⟨rfl, rfl⟩
        refine qO rfl <| zG1 rfl rfl <| qN <| zW rfl (rfl) ?_
        refine zY1 fun hcv hcl => ?_
        refine zK ?_
        exact zQ2 (S' := T (j + 1)) (by simp) zF2 (by rw [(hok _).1, (hok _).1]; exact Nat.le_refl _) hcl ⟨rfl, by rw [hjm, if_pos (by omega)]⟩
  ·
   have hkb : ¬ k < b.length := by rw [zC] at h16; simp at h16; omega
   rw [show i = a.length by omega, show k = b.length by omega, List.drop_length, List.drop_length, both_end] at he
   have hdl := drop_nil_len he
   have hjm : j = m := by omega
   refine zY1 fun hcv hcl => ?_
   refine zN1 ?_
   exact zQ2 (S' := T j) (by simp) zF2 (by rw [(hok _).1, (hok _).1]; exact Nat.le_refl _) hcl ⟨rfl, by rw [hjm, if_neg (by omega)]⟩
theorem with_spec (a b : List Bs) (S : MS) : MCalls Tryz.prog 91 [.lst none 1 (a.map encX), .lst none 1 (b.map encX)] S fun v σ' => v = .fn (.func 130) [] [.ref S.length 0, .ref (S.length + 1) 0] ∧ σ' = S ++ [.cells [.lst none 1 (a.map encX)], .cells [.lst none 1 (b.map encX)]] := by
 refine zU Tryz.func91 rfl Tryz.ntmps91 (zA rfl) ?_
 refine zB <| qR rfl <| qB rfl rfl rfl rfl rfl <| qB rfl rfl rfl rfl rfl <| qA rfl rfl rfl <| qN <| zB <| qR rfl <| qO rfl <| zP2 rfl rfl rfl <| qA rfl rfl rfl <| qN ?_
 refine zY1 fun hcv hcl => ?_
 refine zK ?_
 exact ret_tmpT (.inr rfl) Tryz.results91 rfl (.refl _) (hcv 4 _ rfl) (by simp) hcl ⟨rfl, rfl⟩
theorem bothL_cl {t d ty n : Nat} {xs a b : List Bs} {o : MObj} (ht : t < d) (ho : o ∈ [MObj.cells [.lst (some t) 1 (xs.map encX)], .cells [.lst none 1 (a.map encX)], .cells [.lst none 1 (b.map encX)], .row ty 1 n]) : o.cl d := by
 simp only [List.mem_cons, List.not_mem_nil, or_false] at ho
 rcases ho with rfl | rfl | rfl | rfl
 ·intro x hx
  simp at hx
  subst hx
  exact zR5 ht (cl_encX _) encX_one
 ·intro x hx
  simp at hx
  subst hx
  exact zV4 _ _
 ·intro x hx
  simp at hx
  subst hx
  exact zV4 _ _
 ·exact trivial
theorem get_b1 {A R : MS} {o a b c a' : MObj} : ((A ++ [o, a, b, c]) ++ R)[(A ++ [a']).length]? = some a := by rw [zN, zC0, getElem?_own]; rfl
theorem get_b2 {A R : MS} {o a b c a' : MObj} : ((A ++ [o, a, b, c]) ++ R)[(A ++ [a']).length + 1]? = some b := by rw [zN, zC0, Nat.add_assoc, getElem?_own]; rfl
theorem rowsBoth_spec (a b : List Bs) (hab : a.length + b.length ≤ 1000000) (S : MS) : MCalls Tryz.prog 50 [.lst none 1 (a.map encX), .lst none 1 (b.map encX)] S fun v σ' => v = .lst none 1 ((bothX a b).map encX) ∧ σ' = S := by
 refine zU Tryz.func50 rfl Tryz.ntmps50 (zA rfl) ?_
 refine zB <| qR rfl <| qA rfl rfl rfl <| qN <| zB <| qR rfl <| qO rfl <| zN0 rfl zm26 rfl rfl <| qN <| zB <| zB <| qR rfl <| qM rfl rfl rfl <| qM rfl rfl rfl ?_
 refine qX rfl rfl rfl rfl co91 (with_spec a b _) ?_
 rw [zC0 S]
 refine qN <| zB0 <| mwp_cellrow 0 9 1 rfl (Nat.le_refl _) rfl rfl ?_
 refine mwp_rangeB (ok := fun σ => σ.length = S.length + 5 ∧ σ[(S ++ [MObj.cells [.lst0]]).length]? = some (.cells [.lst none 1 (a.map encX)]) ∧ σ[(S ++ [MObj.cells [.lst0]]).length + 1]? = some (.cells [.lst none 1 (b.map encX)])) (ys := (bothX a b).map fun x => [encX x]) .ret (.inl rfl) (fun j => true) (fun j => ([.cells [.lst (some (S.length + 3)) 1 (((bothX a b).take j).map encX)], .cells [.lst none 1 (a.map encX)], .cells [.lst none 1 (b.map encX)], .row 9 1 ((bothX a b).take j).length] : MS)) (fun j => ([.cells [.lst (some (S.length + 3)) 1 (((bothX a b).take j).map encX)], .cells [.lst none 1 (a.map encX)], .cells [.lst none 1 (b.map encX)], .row 9 1 ((bothX a b).take j).length] : MS)) (fun j => rfl) (fun j => rfl) rfl (fun j o ho n hn => bothL_cl (by simp at hn; omega) ho) (fun j o ho n hn => bothL_cl (by simp at hn; omega) ho) rfl co130 rfl (by simp) ((with_iter a b hab _ _ _).weak fun σ h => h.1) (fun j => ⟨by simp only [zN, zY, List.length_nil], get_b1, get_b2⟩) (fun j s q => ⟨by simp only [zN, zY, List.length_nil], get_b1, get_b2⟩) rfl (fun y hy => by obtain ⟨i, _, rfl⟩ := List.mem_map.1 hy; rfl) ?_ ?_ ?_
 ·
  intro j y hy hbef L'
  rw [zQ0] at hy
  obtain ⟨x, hp, rfl⟩ := Option.map_eq_some_iff.1 hy
  have hjl := (zI.1 hp).1
  have hbl := both_len a b
  have htl : ((bothX a b).take j).length ≤ 1000000 := by rw [List.length_take]; omega
  refine qR rfl <| qA rfl rfl rfl <| qN ?_
  refine ⟨rfl, [], by rw [List.append_nil], ?_⟩
  rw [List.append_nil]
  refine zB0 <| qR rfl <| qO rfl <| zF5 rfl rfl rfl ta26 rfl <| qM rfl rfl rfl <| qO rfl <| zC1 rfl zX el9 rfl rfl (by decide) (by decide) rfl rfl ?_
  refine qO rfl <| op_append_mid rfl zX el9 rfl rfl rfl (by simp) (by simp only [zC, zY, List.length_nil]; omega) (by simp only [zC, zY, List.length_nil]; omega) rfl ?_
  refine qO rfl <| zS4 rfl rfl rfl rfl sz26 rfl rfl (zA rfl) rfl <| qN ?_
  exact .inl ⟨rfl, rfl, [], by rw [List.append_nil, List.take_add_one, hp, Option.toList_some, List.map_append, len_snoc]; rfl⟩
 ·
  intro _
  rw [zC0 S]
  rw [zC]
  refine zB <| qR rfl <| qL rfl rfl rfl rfl ta26 rfl <| qA rfl rfl rfl <| qN <| zK ?_
  exact zQ (.inr rfl) Tryz.results50 rfl (Sub.trans (.view _ _ _) (.of_eq (by rw [List.take_length]))) (zV4 _ _) ⟨rfl, rfl⟩
 ·
  intro j y hy hp
  cases hp
end Go.Proofs.YtnfcnpdpfgcchaaGreatDoor
namespace Go.MV
open Go Go.RowKit
section
section
variable {κ : Type} (cmp : κ → κ → Int)
abbrev REnt (κ : Type) := κ × Val
abbrev Ent (κ : Type) := κ × Val × Option Val
def mergeE : List (REnt κ) → List (REnt κ) → List (Ent κ)
  | [], [] => []
  | x :: a, [] => (x.1, x.2, none) :: mergeE a []
  | [], y :: b => (y.1, y.2, none) :: mergeE [] b
  | x :: a, y :: b => if cmp x.1 y.1 < 0 then (x.1, x.2, none) :: mergeE a (y :: b) else if cmp y.1 x.1 < 0 then (y.1, y.2, none) :: mergeE (x :: a) b else (x.1, x.2, some y.2) :: mergeE a b
  termination_by a b => a.length + b.length
def stepE : List (REnt κ) × List (REnt κ) → List (REnt κ) × List (REnt κ)
  | ([], []) => ([], [])
  | (_ :: a, []) => (a, [])
  | ([], _ :: b) => ([], b)
  | (x :: a, y :: b) => if cmp x.1 y.1 < 0 then (a, y :: b) else if cmp y.1 x.1 < 0 then (x :: a, b) else (a, b)
def restE (a b : List (REnt κ)) : Nat → List (REnt κ) × List (REnt κ)
  | 0 => (a, b)
  | j + 1 => stepE cmp (restE a b j)
theorem step_len (p : List (REnt κ) × List (REnt κ)) : (stepE cmp p).1.length ≤ p.1.length ∧ (stepE cmp p).2.length ≤ p.2.length := by
  obtain ⟨a, b⟩ := p
  cases a <;> cases b <;> simp [stepE]
  split <;> (try split) <;> simp
theorem mergeE_len : ∀ a b : List (REnt κ), (mergeE cmp a b).length ≤ a.length + b.length := by
  intro a b
  induction a, b using mergeE.induct cmp with
  | case1 => simp [mergeE]
  | case2 x a ih => rw [mergeE]; simp at ih ⊢; omega
  | case3 y b ih => rw [mergeE]; simp at ih ⊢; omega
  | case4 x a y b h ih => rw [mergeE, if_pos h]; simp at ih ⊢; omega
  | case5 x a y b h h2 ih => rw [mergeE, if_neg h, if_pos h2]; simp at ih ⊢; omega
  | case6 x a y b h h2 ih => rw [mergeE, if_neg h, if_neg h2]; simp at ih ⊢; omega
end
def ptrE : Option Val → MV
  | none => .ptr0
  | some v => .sptr (encV v).cells
def encR {κ : Type} (ek : κ → MV) (e : REnt κ) : MV := .agg [ek e.1, .sptr (encV e.2).cells, .ptr0]
def encE {κ : Type} (ek : κ → MV) (e : Ent κ) : MV := .agg [ek e.1, .sptr (encV e.2.1).cells, ptrE e.2.2]
theorem cl_sptrV (n : Nat) (v : Val) : Cl n (.sptr (encV v).cells) := .sptr _ fun x hx => by
  have h := zJ1 n v
  cases v with
  | mk a b c d e =>
    cases h with
    | agg _ h => exact h x hx
theorem cl_ptrE (n : Nat) : ∀ o : Option Val, Cl n (ptrE o)
  | none => .ptr0
  | some v => cl_sptrV n v
theorem cl_encR {κ : Type} {ek : κ → MV} (hk : ∀ n k, Cl n (ek k)) (n : Nat) (e : REnt κ) : Cl n (encR ek e) := .agg _ fun x hx => by
  simp only [List.mem_cons, List.not_mem_nil, or_false] at hx
  rcases hx with rfl | rfl | rfl
  · exact hk _ _
  · exact cl_sptrV _ _
  · exact .ptr0
theorem cl_encE {κ : Type} {ek : κ → MV} (hk : ∀ n k, Cl n (ek k)) (n : Nat) (e : Ent κ) : Cl n (encE ek e) := .agg _ fun x hx => by
  simp only [List.mem_cons, List.not_mem_nil, or_false] at hx
  rcases hx with rfl | rfl | rfl
  · exact hk _ _
  · exact cl_sptrV _ _
  · exact cl_ptrE _ _
section
variable {P : Program} {rd : Option Nat} {o : Oper} {env : Env} {K : MV → MS → Prop} {A J C : MS}
theorem op_store_box {t : TypeId} {x y : Operand} {id off : Nat} {l : List MV} {m : MV} {k : Nat} (ho : o.op = .store t x y) (hx : evo env x = some (.ref id off)) (hy : evo env y = some m) (hσ : A[id]? = some (.cells l)) (hk : szOf P t = some k) (hm : m.cells.length = k)
    (h1 : m.cells.all MV.one = true) (hle : off + k ≤ l.length) (h : K (.tup []) ((A.set id (.cells (setMany l off m.cells)) ++ J) ++ C)) : OpWp P rd o env ((A ++ J) ++ C) K := by
  refine op_store ho hx hy (zZ (zZ hσ)) hk hm h1 hle ?_
  rw [set_app (zZ hσ), set_app hσ]
  exact h
theorem _root_.zC3 : type_of% @op_store_box := @op_store_box
end
section
variable {P : Program} {fn : Func} {S S' L : MS} {R : MV → MS → Prop} {env : Env}
theorem ret_cell_tmp {e : Exit} {a t k off t2 : Nat} {l : List MV} {ta : Option Nat} {x y x2 y2 : MV} (he : e = .normal ∨ e = .ret) (hres : fn.results = #[.cell a t, .tmp t2]) (ha : get env a = some (.ref (S.length + k) off)) (hl : L[k]? = some (.cells l)) (ht : tyAgg P t = some ta) (hm : loadMV ta l off = some x) (hs : Sub x y) (hc : Cl S.length y)
    (hx2 : get env t2 = some x2) (hs2 : Sub x2 y2) (hc2 : Cl S.length y2) (hR : R (.tup [y, y2]) S) : BodyQ P fn S R e env (S ++ L) := by
  refine ⟨he, [x, x2], .tup [y, y2], S, L, ?_, .tup (.cons hs (.cons hs2 .nil)), .tup _ (fun z hz => ?_), rfl, Nat.le_refl _, .inl rfl, hR⟩
  · rw [hres]
    exact .cell ha (by rw [getElem?_own]; exact hl) ht hm (.tmp hx2 .nil)
  · simp only [List.mem_cons, List.not_mem_nil, or_false] at hz
    rcases hz with rfl | rfl
    · exact hc
    · exact hc2
theorem _root_.zZ0 : type_of% @ret_cell_tmp := @ret_cell_tmp
theorem ret_cell_cell {e : Exit} {a t k off a2 t2 k2 off2 : Nat} {l l2 : List MV} {ta ta2 : Option Nat} {x y x2 y2 : MV} (he : e = .normal ∨ e = .ret) (hres : fn.results = #[.cell a t, .cell a2 t2]) (ha : get env a = some (.ref (S.length + k) off)) (hl : L[k]? = some (.cells l)) (ht : tyAgg P t = some ta) (hm : loadMV ta l off = some x) (hs : Sub x y) (hc : Cl S.length y)
    (ha2 : get env a2 = some (.ref (S.length + k2) off2)) (hl2 : L[k2]? = some (.cells l2)) (ht2 : tyAgg P t2 = some ta2) (hm2 : loadMV ta2 l2 off2 = some x2) (hs2 : Sub x2 y2) (hc2 : Cl S.length y2) (hR : R (.tup [y, y2]) S) : BodyQ P fn S R e env (S ++ L) := by
  refine ⟨he, [x, x2], .tup [y, y2], S, L, ?_, .tup (.cons hs (.cons hs2 .nil)), .tup _ (fun z hz => ?_), rfl, Nat.le_refl _, .inl rfl, hR⟩
  · rw [hres]
    exact .cell ha (by rw [getElem?_own]; exact hl) ht hm (.cell ha2 (by rw [getElem?_own]; exact hl2) ht2 hm2 .nil)
  · simp only [List.mem_cons, List.not_mem_nil, or_false] at hz
    rcases hz with rfl | rfl
    · exact hc
    · exact hc2
end
theorem get_o0 {A A' R : MS} {a b : MObj} (h : A'.length = A.length) : ((A' ++ [a, b]) ++ R)[A.length + 0]? = some a := by rw [← h]; exact zI4 (k := 0) rfl
theorem get_o1 {A A' R : MS} {a b : MObj} (h : A'.length = A.length) : ((A' ++ [a, b]) ++ R)[A.length + 1]? = some b := by rw [← h]; exact zI4 (k := 1) rfl
theorem set_o01 {A A' R : MS} {a b a' b' : MObj} (h : A'.length = A.length) : (((A' ++ [a, b]) ++ R).set (A.length + 1) b').set (A.length + 0) a' = (A' ++ [a', b']) ++ R := by
  rw [← h, set_mid_ (k := 1) (ob := b) rfl, set_mid_ (k := 0) (ob := a) rfl]
  rfl
theorem get_o0' {A A' R : MS} {a b b' : MObj} (h : A'.length = A.length) : (((A' ++ [a, b]) ++ R).set (A.length + 1) b')[A.length + 0]? = some a := by
  rw [← h, set_mid_ (k := 1) (ob := b) rfl]
  exact zI4 (k := 0) rfl
end
end Go.MV
namespace Go.Proofs.YtnfcnpdpfgcchaaGreatDoor
open Go Go.MV
theorem gt_nil {α β : Type} {f : α → β} : intCmp .gtr ((((([] : List α).map f).length : Nat)) : Int) 0 = some false := by simp [intCmp]
theorem gt_cons {α β : Type} {f : α → β} {x : α} {l : List α} : intCmp .gtr (((((x :: l).map f).length : Nat)) : Int) 0 = some true := by simp [intCmp]
theorem eq_nil {α β : Type} {f : α → β} : intCmp .eql ((((([] : List α).map f).length : Nat)) : Int) 0 = some true := by simp [intCmp]
theorem eq_cons {α β : Type} {f : α → β} {x : α} {l : List α} : intCmp .eql (((((x :: l).map f).length : Nat)) : Int) 0 = some false := by simp [intCmp]; omega
theorem _root_.zU5 : type_of% @eq_cons := @eq_cons
theorem set_self_ {S : MS} {id : Nat} {o : MObj} (h : S[id]? = some o) : S.set id o = S := by
 obtain ⟨hlt, e⟩ := zI.1 h
 rw [← e]
 exact List.set_getElem_self hlt
theorem _root_.zN5 : type_of% @set_self_ := @set_self_
theorem get_ne {S : MS} {i k : Nat} {o p : MObj} (hne : i ≠ k) (h : S[k]? = some p) : (S.set i o)[k]? = some p := by
 rw [List.getElem?_set_ne hne]; exact h
theorem _root_.zJ2 : type_of% @get_ne := @get_ne
theorem drop1 {α β : Type} {f : α → β} {x : α} {l : List α} : (((x :: l).map f).drop 1).take (((x :: l).map f).length - 1) = l.map f := by
 rw [List.map_cons, List.drop_succ_cons, List.drop_zero]
 exact List.take_of_length_le (by simp)
theorem get_last2 {A A' J : MS} {c : MObj} (h : A'.length = A.length) : ((A' ++ J) ++ [c])[(A ++ J).length]? = some c := by
 have e : (A ++ J).length = (A' ++ J).length := by simp [h]
 rw [e]
 exact zN4
theorem _root_.zR2 : type_of% @get_last2 := @get_last2
theorem _root_.zK0 : type_of% @Tryz.underlying134 := @Tryz.underlying134
theorem _root_.zB6 : type_of% @Tryz.results138 := @Tryz.results138
theorem cmerged_iter (cmp : List Tk → List Tk → Int) (kc : FuncId) (hcc : CallOk Tryz.prog kc) (hcmp : ∀ (k1 k2 : List Tk) (S : MS), MCalls Tryz.prog kc ([] ++ [encC k1, encC k2] ++ []) S fun v σ' => v = .int .i64 (cmp k1 k2) ∧ σ' = S) (a b : List (REnt (List Tk))) (ida idb idc l0 : Nat) (hab : ida ≠ idb) :
  IterOk2 Tryz.prog 138 [] [.ref ida 0, .ref idb 0, .ref idc 0] ((mergeE cmp a b).map fun e => [encE encC e]) (fun σ => σ.length = l0 ∧ ClS σ) (fun j σ τ => σ[ida]? = some (.cells [.lst none 3 ((restE cmp a b j).1.map (encR encC))]) ∧ σ[idb]? = some (.cells [.lst none 3 ((restE cmp a b j).2.map (encR encC))]) ∧ σ[idc]? = some (.cells [.fn (.func kc) [] []]) ∧ τ = (σ.set ida (.cells [.lst none 3 ((restE cmp a b (j + 1)).1.map (encR encC))])).set idb (.cells [.lst none 3 ((restE cmp a b (j + 1)).2.map (encR encC))])) := by
 refine iterOk2_of fun id T U m hok hoku hm hyt hyf => ?_
 have hml : ((mergeE cmp a b).map fun e => [encE encC e]).length = (mergeE cmp a b).length := zC ..
 refine zU Tryz.func138 rfl Tryz.ntmps138 (zA rfl) ?_
 rw [List.append_nil]
 show mwp _ _ _ _ _ _ _ (([] : MS) ++ T 0)
 refine zB0 ?_
 refine zV1 (α := Nat × MS) [(0, _), (1, _), (2, _), (3, _)] (fun x => []) (fun x => T x.1 ++ x.2) (fun x => x.1 ≤ m ∧ mergeE cmp (restE cmp a b x.1).1 (restE cmp a b x.1).2 = (mergeE cmp a b).drop x.1) (fun x => m + 1 - x.1) (⟨0, []⟩) (.keep rfl (.keep rfl (.keep rfl (.keep rfl (.nil))))) (.nil) (⟨by simp, rfl⟩) (by rw [List.append_nil]) ?_
 rintro ⟨j, J⟩ ⟨hj, he⟩
 dsimp only at hj he ⊢
 show mwp _ _ _ _ _ _ _ (T j ++ J)
 obtain ⟨hA, hB, hC, hU⟩ := hoku j hj
 obtain ⟨⟨ra, rb⟩, hR⟩ : ∃ p, restE cmp a b j = p := ⟨_, rfl⟩
 rw [restE, hR] at hU
 rw [hR] at hA hB he
 dsimp only at hA hB he
 have hlT : (U j).length = (T j).length := by rw [hU]; simp
 refine zB <| zB ?_
 rcases ra with _ | ⟨x, ra⟩ <;> rcases rb with _ | ⟨y, rb⟩
 ·
  rw [mergeE] at he
  have hdl := drop_nil_len he
  have hjm : j = m := by omega
  refine qR rfl <| qO rfl <| zT rfl rfl (by first | exact zZ (zZ hA) | exact zZ hA) ta134 rfl ?_
  refine qE rfl rfl zK0 rfl <| qC rfl rfl rfl rfl (gt_nil) <| qM rfl rfl rfl <| qO rfl <| zT rfl rfl (by first | exact zZ (zZ hB) | exact zZ hB | exact zZ (zZ (zJ2 hab hB))) ta134 rfl ?_
  refine qE rfl rfl zK0 rfl <| qC rfl rfl rfl rfl (gt_nil) <| qP rfl rfl rfl rfl <| qN <| zL rfl (rfl) <| zN1 ?_
  exact zV3 (S' := T j) (by simp) zB6 (by rw [(hok _).1, (hok _).1]; exact Nat.le_refl _) (hok _).2 ⟨rfl, by rw [hjm, if_neg (by omega)]⟩
 ·
  refine qR rfl <| qO rfl <| zT rfl rfl (by first | exact zZ (zZ hA) | exact zZ hA) ta134 rfl ?_
  refine qE rfl rfl zK0 rfl <| qC rfl rfl rfl rfl (gt_nil) <| qM rfl rfl rfl <| qO rfl <| zT rfl rfl (by first | exact zZ (zZ hB) | exact zZ hB | exact zZ (zZ (zJ2 hab hB))) ta134 rfl ?_
  refine qE rfl rfl zK0 rfl <| qC rfl rfl rfl rfl (gt_cons) <| qP rfl rfl rfl rfl <| qN <| zW rfl (rfl) <| zA0 <| zB0 <| zB <| qR rfl <| qO rfl <| zV5 rfl zm137 <| qN <| zB <| zB0 <| zB ?_
  refine zU0 [] [_] mo (by decide) rfl rfl rfl rfl ?_
  refine dO rfl rfl rfl (zT rfl rfl (by first | exact zZ (zZ hB) | exact zZ hB | exact zZ (zZ (zJ2 hab hB))) ta134 rfl ⟨rfl, rfl⟩) ?_
  refine dO rfl rfl rfl (zT1 rfl zK0 rfl ⟨rfl, rfl⟩) <| dO rfl rfl rfl (zE2 rfl rfl rfl (zU5) ⟨rfl, rfl⟩) <| dO rfl rfl rfl (zV rfl rfl ⟨rfl, rfl⟩) <| dO rfl rfl rfl (zT rfl rfl (by first | exact zZ (zZ hA) | exact zZ hA) ta134 rfl ⟨rfl, rfl⟩) ?_
  refine dO rfl rfl rfl (zT1 rfl zK0 rfl ⟨rfl, rfl⟩) <| dO rfl rfl rfl (zE2 rfl rfl rfl (gt_nil) ⟨rfl, rfl⟩) <| dO rfl rfl rfl (zV rfl rfl ⟨rfl, rfl⟩) <| dS rfl rfl <| dS rfl rfl <| dS rfl rfl <| dS rfl rfl <| dS rfl rfl <| dS rfl rfl <| dS rfl rfl <| dS rfl rfl <| dS rfl rfl <| dS rfl rfl <| dS rfl rfl <| dO rfl rfl rfl (zE1 rfl rfl rfl ⟨rfl, rfl⟩) <| dO rfl rfl rfl (zE1 rfl rfl rfl ⟨rfl, rfl⟩) <| dO rfl rfl rfl (zB1 rfl rfl ⟨rfl, rfl⟩) <| zL0 <| zL rfl (rfl) <| zB ?_
  refine zU0 [] [_] mo (by decide) rfl rfl rfl rfl ?_
  refine dO rfl rfl rfl (zT rfl rfl (by first | exact zZ (zZ hA) | exact zZ hA) ta134 rfl ⟨rfl, rfl⟩) ?_
  refine dO rfl rfl rfl (zT1 rfl zK0 rfl ⟨rfl, rfl⟩) <| dO rfl rfl rfl (zE2 rfl rfl rfl (eq_nil) ⟨rfl, rfl⟩) <| dO rfl rfl rfl (zV rfl rfl ⟨rfl, rfl⟩) <| dS rfl rfl <| dS rfl rfl <| dS rfl rfl <| dS rfl rfl <| dS rfl rfl <| dS rfl rfl <| dS rfl rfl <| dS rfl rfl <| dS rfl rfl <| dS rfl rfl <| dS rfl rfl <| dO rfl rfl rfl (zE1 rfl rfl rfl ⟨rfl, rfl⟩) <| dO rfl rfl rfl (zB1 rfl rfl ⟨rfl, rfl⟩) <| zL0 <| zW rfl (rfl) ?_
  have hst : stepE cmp ([], y :: rb) = ([], rb) := by rw [stepE]
  rw [mergeE] at he
  obtain ⟨hy, hnx⟩ := zQ1 he
  replace hy : ((mergeE cmp a b).map fun e => [encE encC e])[j]? = some [encE encC (y.1, y.2, none)] := by rw [zQ0, hy]; rfl
  have hjl := (zI.1 hy).1
  have hUB : U j = (T j).set idb (.cells [.lst none 3 (rb.map (encR encC))]) := by rw [hU, hst, zN5 hA]
  refine zU0 [5, 6] [_, (T j ++ J) ++ [.cells [encC y.1, .sptr (encV y.2).cells, .ptr0]], (U j ++ J) ++ [.cells [encC y.1, .sptr (encV y.2).cells, .ptr0]]] mo (by decide) rfl rfl rfl rfl ?_
  refine dO rfl rfl rfl (zT rfl rfl (by first | exact zZ (zZ hB) | exact zZ hB | exact zZ (zZ (zJ2 hab hB))) ta134 rfl ⟨rfl, rfl⟩) ?_
  refine dO rfl rfl rfl (zG rfl zK0 sz137 (by decide) rfl rfl rfl (show _ = some (encR encC y) from rfl) ⟨rfl, rfl⟩) ?_
  refine dO rfl rfl rfl (zH rfl rfl ta137 rfl ⟨rfl, rfl⟩) <| zS rfl rfl (.cons (zT rfl rfl (by first | exact zZ (zZ hB) | exact zZ hB | exact zZ (zZ (zJ2 hab hB))) ta134 rfl ⟨rfl, rfl⟩) (.cons (zT rfl rfl (by first | exact zZ (zZ hB) | exact zZ hB | exact zZ (zZ (zJ2 hab hB))) ta134 rfl ⟨rfl, rfl⟩) (.nil))) ?_
  refine zS rfl rfl (.cons (zP1 rfl zK0 sz137 rfl (.some rfl rfl) .none (by simp) (by simp) ⟨rfl, rfl⟩) (.cons (zP1 rfl zK0 sz137 rfl (.some rfl rfl) .none (by simp) (by simp) ⟨rfl, rfl⟩) (.nil))) ?_
  rw [drop1]
  refine zX0 rfl rfl rfl rfl (zS2 rfl rfl rfl sz137 rfl rfl (zA rfl) ⟨rfl, rfl⟩) <| zX0 rfl rfl rfl rfl (zC3 rfl rfl rfl (by first | exact hB | exact zJ2 hab hB) sz134 rfl rfl (zA rfl) ⟨rfl, by rw [hUB]; rfl⟩) ?_
  refine zL0 <| zB ?_
  rcases Nat.lt_or_eq_of_le hj with hjm | hjm
  ·
   refine qR rfl <| qM rfl rfl rfl <| qO rfl <| zT rfl rfl (zR2 hlT) ta137 rfl <| qO rfl <| (hyt j _ hjm hy).at2 rfl rfl rfl <| qO rfl <| zG1 rfl rfl <| qN <| zL rfl (rfl) <| zA0 ?_
   refine ⟨⟨j + 1, J ++ [_]⟩, by dsimp only; omega, ⟨by dsimp only; omega, by dsimp only; rw [restE, hR, hst]; exact hnx⟩, zC0 .., (.keep rfl (.keep rfl (.keep rfl (.keep rfl (.nil))))), (.nil)⟩
  ·
   refine qR rfl <| qM rfl rfl rfl <| qO rfl <| zT rfl rfl (zR2 hlT) ta137 rfl <| qO rfl <| (hyf j _ hjm hy).at2 rfl rfl rfl <| qO rfl <| zG1 rfl rfl <| qN <| zW rfl (rfl) <| zK ?_
   rw [zC0]
   exact zV3 (S' := T (j + 1)) (by simp) zB6 (by rw [(hok _).1, (hok _).1]; exact Nat.le_refl _) (hok _).2 ⟨rfl, by rw [hjm, if_pos (by omega)]⟩
 ·
  refine qR rfl <| qO rfl <| zT rfl rfl (by first | exact zZ (zZ hA) | exact zZ hA) ta134 rfl ?_
  refine qE rfl rfl zK0 rfl <| qC rfl rfl rfl rfl (gt_cons) <| qM rfl rfl rfl <| qS rfl <| qS rfl <| qS rfl <| qP rfl rfl rfl rfl <| qN <| zW rfl (rfl) <| zA0 <| zB0 <| zB <| qR rfl <| qO rfl <| zV5 rfl zm137 <| qN <| zB <| zB0 <| zB ?_
  refine zU0 [] [_] mo (by decide) rfl rfl rfl rfl ?_
  refine dO rfl rfl rfl (zT rfl rfl (by first | exact zZ (zZ hB) | exact zZ hB | exact zZ (zZ (zJ2 hab hB))) ta134 rfl ⟨rfl, rfl⟩) ?_
  refine dO rfl rfl rfl (zT1 rfl zK0 rfl ⟨rfl, rfl⟩) <| dO rfl rfl rfl (zE2 rfl rfl rfl (eq_nil) ⟨rfl, rfl⟩) <| dO rfl rfl rfl (zV rfl rfl ⟨rfl, rfl⟩) <| dS rfl rfl <| dS rfl rfl <| dS rfl rfl <| dS rfl rfl <| dS rfl rfl <| dS rfl rfl <| dS rfl rfl <| dS rfl rfl <| dS rfl rfl <| dS rfl rfl <| dS rfl rfl <| dS rfl rfl <| dS rfl rfl <| dS rfl rfl <| dS rfl rfl <| dS rfl rfl <| dO rfl rfl rfl (zE1 rfl rfl rfl ⟨rfl, rfl⟩) <| dO rfl rfl rfl (zB1 rfl rfl ⟨rfl, rfl⟩) <| zL0 <| zW rfl (rfl) ?_
  have hst : stepE cmp (x :: ra, []) = (ra, []) := by rw [stepE]
  rw [mergeE] at he
  obtain ⟨hy, hnx⟩ := zQ1 he
  replace hy : ((mergeE cmp a b).map fun e => [encE encC e])[j]? = some [encE encC (x.1, x.2, none)] := by rw [zQ0, hy]; rfl
  have hjl := (zI.1 hy).1
  have hUA : U j = (T j).set ida (.cells [.lst none 3 (ra.map (encR encC))]) := by rw [hU, hst]; exact zN5 (zJ2 hab hB)
  refine zU0 [5, 6] [_, (T j ++ J) ++ [.cells [encC x.1, .sptr (encV x.2).cells, .ptr0]], (U j ++ J) ++ [.cells [encC x.1, .sptr (encV x.2).cells, .ptr0]]] mo (by decide) rfl rfl rfl rfl ?_
  refine dO rfl rfl rfl (zT rfl rfl (by first | exact zZ (zZ hA) | exact zZ hA) ta134 rfl ⟨rfl, rfl⟩) ?_
  refine dO rfl rfl rfl (zG rfl zK0 sz137 (by decide) rfl rfl rfl (show _ = some (encR encC x) from rfl) ⟨rfl, rfl⟩) ?_
  refine dO rfl rfl rfl (zH rfl rfl ta137 rfl ⟨rfl, rfl⟩) <| zS rfl rfl (.cons (zT rfl rfl (by first | exact zZ (zZ hA) | exact zZ hA) ta134 rfl ⟨rfl, rfl⟩) (.cons (zT rfl rfl (by first | exact zZ (zZ hA) | exact zZ hA) ta134 rfl ⟨rfl, rfl⟩) (.nil))) ?_
  refine zS rfl rfl (.cons (zP1 rfl zK0 sz137 rfl (.some rfl rfl) .none (by simp) (by simp) ⟨rfl, rfl⟩) (.cons (zP1 rfl zK0 sz137 rfl (.some rfl rfl) .none (by simp) (by simp) ⟨rfl, rfl⟩) (.nil))) ?_
  rw [drop1]
  refine zX0 rfl rfl rfl rfl (zS2 rfl rfl rfl sz137 rfl rfl (zA rfl) ⟨rfl, rfl⟩) <| zX0 rfl rfl rfl rfl (zC3 rfl rfl rfl (hA) sz134 rfl rfl (zA rfl) ⟨rfl, by rw [hUA]; rfl⟩) ?_
  refine zL0 <| zB ?_
  rcases Nat.lt_or_eq_of_le hj with hjm | hjm
  ·
   refine qR rfl <| qM rfl rfl rfl <| qO rfl <| zT rfl rfl (zR2 hlT) ta137 rfl <| qO rfl <| (hyt j _ hjm hy).at2 rfl rfl rfl <| qO rfl <| zG1 rfl rfl <| qN <| zL rfl (rfl) <| zA0 ?_
   refine ⟨⟨j + 1, J ++ [_]⟩, by dsimp only; omega, ⟨by dsimp only; omega, by dsimp only; rw [restE, hR, hst]; exact hnx⟩, zC0 .., (.keep rfl (.keep rfl (.keep rfl (.keep rfl (.nil))))), (.nil)⟩
  ·
   refine qR rfl <| qM rfl rfl rfl <| qO rfl <| zT rfl rfl (zR2 hlT) ta137 rfl <| qO rfl <| (hyf j _ hjm hy).at2 rfl rfl rfl <| qO rfl <| zG1 rfl rfl <| qN <| zW rfl (rfl) <| zK ?_
   rw [zC0]
   exact zV3 (S' := T (j + 1)) (by simp) zB6 (by rw [(hok _).1, (hok _).1]; exact Nat.le_refl _) (hok _).2 ⟨rfl, by rw [hjm, if_pos (by omega)]⟩
 ·
  refine qR rfl <| qO rfl <| zT rfl rfl (by first | exact zZ (zZ hA) | exact zZ hA) ta134 rfl ?_
  refine qE rfl rfl zK0 rfl <| qC rfl rfl rfl rfl (gt_cons) <| qM rfl rfl rfl <| qS rfl <| qS rfl <| qS rfl <| qP rfl rfl rfl rfl <| qN <| zW rfl (rfl) <| zA0 <| zB0 <| zB <| qR rfl <| qO rfl <| zV5 rfl zm137 <| qN <| zB <| zB0 <| zB ?_
  refine zU0 [] [_] mo (by decide) rfl rfl rfl rfl ?_
  refine dO rfl rfl rfl (zT rfl rfl (by first | exact zZ (zZ hB) | exact zZ hB | exact zZ (zZ (zJ2 hab hB))) ta134 rfl ⟨rfl, rfl⟩) ?_
  refine dO rfl rfl rfl (zT1 rfl zK0 rfl ⟨rfl, rfl⟩) <| dO rfl rfl rfl (zE2 rfl rfl rfl (zU5) ⟨rfl, rfl⟩) <| dO rfl rfl rfl (zV rfl rfl ⟨rfl, rfl⟩) <| dO rfl rfl rfl (zT rfl rfl (by first | exact zZ (zZ hA) | exact zZ hA) ta134 rfl ⟨rfl, rfl⟩) ?_
  refine dO rfl rfl rfl (zT1 rfl zK0 rfl ⟨rfl, rfl⟩) <| dO rfl rfl rfl (zE2 rfl rfl rfl (gt_cons) ⟨rfl, rfl⟩) <| dO rfl rfl rfl (zV rfl rfl ⟨rfl, rfl⟩) ?_
  refine zS rfl rfl (.cons (zT rfl rfl (zZ (zZ hC)) ta142 rfl ⟨rfl, rfl⟩) .nil) ?_
  refine dO rfl rfl rfl (zT rfl rfl (by first | exact zZ (zZ hA) | exact zZ hA) ta134 rfl ⟨rfl, rfl⟩) ?_
  refine dO rfl rfl rfl (zG rfl zK0 sz137 (by decide) rfl rfl rfl (show _ = some (encR encC x) from rfl) ⟨rfl, rfl⟩) ?_
  refine dO rfl rfl rfl (zP0 rfl rfl zJ6 ⟨rfl, rfl⟩) <| dO rfl rfl rfl (zH rfl rfl ta60 rfl ⟨rfl, rfl⟩) <| dO rfl rfl rfl (zT rfl rfl (by first | exact zZ (zZ hB) | exact zZ hB | exact zZ (zZ (zJ2 hab hB))) ta134 rfl ⟨rfl, rfl⟩) ?_
  refine dO rfl rfl rfl (zG rfl zK0 sz137 (by decide) rfl rfl rfl (show _ = some (encR encC y) from rfl) ⟨rfl, rfl⟩) ?_
  refine dO rfl rfl rfl (zP0 rfl rfl zJ6 ⟨rfl, rfl⟩) <| dO rfl rfl rfl (zH rfl rfl ta60 rfl ⟨rfl, rfl⟩) <| zS rfl rfl (.cons (zH1 rfl rfl rfl hcc (hcmp x.1 y.1 _)) .nil) <| dO rfl rfl rfl (zE2 rfl rfl rfl rfl ⟨rfl, rfl⟩) <| dO rfl rfl rfl (zE1 rfl rfl rfl ⟨rfl, rfl⟩) <| dO rfl rfl rfl (zE1 rfl rfl rfl ⟨rfl, rfl⟩) <| dO rfl rfl rfl (zB1 rfl rfl ⟨rfl, rfl⟩) <| zL0 ?_
  refine zJ rfl (fun h31 => ?_) (fun h31 => ?_)
  ·
   have hlt : cmp x.1 y.1 < 0 := by simpa using h31
   have hst : stepE cmp (x :: ra, y :: rb) = (ra, y :: rb) := by rw [stepE, if_pos hlt]
   rw [mergeE, if_pos hlt] at he
   obtain ⟨hy, hnx⟩ := zQ1 he
   replace hy : ((mergeE cmp a b).map fun e => [encE encC e])[j]? = some [encE encC (x.1, x.2, none)] := by rw [zQ0, hy]; rfl
   have hjl := (zI.1 hy).1
   have hUA : U j = (T j).set ida (.cells [.lst none 3 (ra.map (encR encC))]) := by rw [hU, hst]; exact zN5 (zJ2 hab hB)
   refine zU0 [5, 6] [_, (T j ++ J) ++ [.cells [encC x.1, .sptr (encV x.2).cells, .ptr0]], (U j ++ J) ++ [.cells [encC x.1, .sptr (encV x.2).cells, .ptr0]]] mo (by decide) rfl rfl rfl rfl ?_
   refine dO rfl rfl rfl (zT rfl rfl (by first | exact zZ (zZ hA) | exact zZ hA) ta134 rfl ⟨rfl, rfl⟩) ?_
   refine dO rfl rfl rfl (zG rfl zK0 sz137 (by decide) rfl rfl rfl (show _ = some (encR encC x) from rfl) ⟨rfl, rfl⟩) ?_
   refine dO rfl rfl rfl (zH rfl rfl ta137 rfl ⟨rfl, rfl⟩) <| zS rfl rfl (.cons (zT rfl rfl (by first | exact zZ (zZ hA) | exact zZ hA) ta134 rfl ⟨rfl, rfl⟩) (.cons (zT rfl rfl (by first | exact zZ (zZ hA) | exact zZ hA) ta134 rfl ⟨rfl, rfl⟩) (.nil))) ?_
   refine zS rfl rfl (.cons (zP1 rfl zK0 sz137 rfl (.some rfl rfl) .none (by simp) (by simp) ⟨rfl, rfl⟩) (.cons (zP1 rfl zK0 sz137 rfl (.some rfl rfl) .none (by simp) (by simp) ⟨rfl, rfl⟩) (.nil))) ?_
   rw [drop1]
   refine zX0 rfl rfl rfl rfl (zS2 rfl rfl rfl sz137 rfl rfl (zA rfl) ⟨rfl, rfl⟩) <| zX0 rfl rfl rfl rfl (zC3 rfl rfl rfl (hA) sz134 rfl rfl (zA rfl) ⟨rfl, by rw [hUA]; rfl⟩) ?_
   refine zL0 <| zB ?_
   rcases Nat.lt_or_eq_of_le hj with hjm | hjm
   ·
    refine qR rfl <| qM rfl rfl rfl <| qO rfl <| zT rfl rfl (zR2 hlT) ta137 rfl <| qO rfl <| (hyt j _ hjm hy).at2 rfl rfl rfl <| qO rfl <| zG1 rfl rfl <| qN <| zL rfl (rfl) <| zA0 ?_
    refine ⟨⟨j + 1, J ++ [_]⟩, by dsimp only; omega, ⟨by dsimp only; omega, by dsimp only; rw [restE, hR, hst]; exact hnx⟩, zC0 .., (.keep rfl (.keep rfl (.keep rfl (.keep rfl (.nil))))), (.nil)⟩
   ·
    refine qR rfl <| qM rfl rfl rfl <| qO rfl <| zT rfl rfl (zR2 hlT) ta137 rfl <| qO rfl <| (hyf j _ hjm hy).at2 rfl rfl rfl <| qO rfl <| zG1 rfl rfl <| qN <| zW rfl (rfl) <| zK ?_
    rw [zC0]
    exact zV3 (S' := T (j + 1)) (by simp) zB6 (by rw [(hok _).1, (hok _).1]; exact Nat.le_refl _) (hok _).2 ⟨rfl, by rw [hjm, if_pos (by omega)]⟩
  ·
   have hlt : ¬ cmp x.1 y.1 < 0 := by simpa using h31
   refine zB ?_
   refine zU0 [] [_] mo (by decide) rfl rfl rfl rfl ?_
   refine dO rfl rfl rfl (zT rfl rfl (by first | exact zZ (zZ hA) | exact zZ hA) ta134 rfl ⟨rfl, rfl⟩) ?_
   refine dO rfl rfl rfl (zT1 rfl zK0 rfl ⟨rfl, rfl⟩) <| dO rfl rfl rfl (zE2 rfl rfl rfl (zU5) ⟨rfl, rfl⟩) <| dO rfl rfl rfl (zV rfl rfl ⟨rfl, rfl⟩) ?_
   refine zS rfl rfl (.cons (zT rfl rfl (zZ (zZ hC)) ta142 rfl ⟨rfl, rfl⟩) .nil) ?_
   refine dO rfl rfl rfl (zT rfl rfl (by first | exact zZ (zZ hB) | exact zZ hB | exact zZ (zZ (zJ2 hab hB))) ta134 rfl ⟨rfl, rfl⟩) ?_
   refine dO rfl rfl rfl (zG rfl zK0 sz137 (by decide) rfl rfl rfl (show _ = some (encR encC y) from rfl) ⟨rfl, rfl⟩) ?_
   refine dO rfl rfl rfl (zP0 rfl rfl zJ6 ⟨rfl, rfl⟩) <| dO rfl rfl rfl (zH rfl rfl ta60 rfl ⟨rfl, rfl⟩) <| dO rfl rfl rfl (zT rfl rfl (by first | exact zZ (zZ hA) | exact zZ hA) ta134 rfl ⟨rfl, rfl⟩) ?_
   refine dO rfl rfl rfl (zG rfl zK0 sz137 (by decide) rfl rfl rfl (show _ = some (encR encC x) from rfl) ⟨rfl, rfl⟩) ?_
   refine dO rfl rfl rfl (zP0 rfl rfl zJ6 ⟨rfl, rfl⟩) <| dO rfl rfl rfl (zH rfl rfl ta60 rfl ⟨rfl, rfl⟩) <| zS rfl rfl (.cons (zH1 rfl rfl rfl hcc (hcmp y.1 x.1 _)) .nil) <| dO rfl rfl rfl (zE2 rfl rfl rfl rfl ⟨rfl, rfl⟩) <| dO rfl rfl rfl (zE1 rfl rfl rfl ⟨rfl, rfl⟩) <| dO rfl rfl rfl (zB1 rfl rfl ⟨rfl, rfl⟩) <| zL0 ?_
   refine zJ rfl (fun h58 => ?_) (fun h58 => ?_)
   ·
    have hgt : cmp y.1 x.1 < 0 := by simpa using h58
    have hst : stepE cmp (x :: ra, y :: rb) = (x :: ra, rb) := by rw [stepE, if_neg hlt, if_pos hgt]
    rw [mergeE, if_neg hlt, if_pos hgt] at he
    obtain ⟨hy, hnx⟩ := zQ1 he
    replace hy : ((mergeE cmp a b).map fun e => [encE encC e])[j]? = some [encE encC (y.1, y.2, none)] := by rw [zQ0, hy]; rfl
    have hjl := (zI.1 hy).1
    have hUB : U j = (T j).set idb (.cells [.lst none 3 (rb.map (encR encC))]) := by rw [hU, hst, zN5 hA]
    refine zU0 [5, 6] [_, (T j ++ J) ++ [.cells [encC y.1, .sptr (encV y.2).cells, .ptr0]], (U j ++ J) ++ [.cells [encC y.1, .sptr (encV y.2).cells, .ptr0]]] mo (by decide) rfl rfl rfl rfl ?_
    refine dO rfl rfl rfl (zT rfl rfl (by first | exact zZ (zZ hB) | exact zZ hB | exact zZ (zZ (zJ2 hab hB))) ta134 rfl ⟨rfl, rfl⟩) ?_
    refine dO rfl rfl rfl (zG rfl zK0 sz137 (by decide) rfl rfl rfl (show _ = some (encR encC y) from rfl) ⟨rfl, rfl⟩) ?_
    refine dO rfl rfl rfl (zH rfl rfl ta137 rfl ⟨rfl, rfl⟩) <| zS rfl rfl (.cons (zT rfl rfl (by first | exact zZ (zZ hB) | exact zZ hB | exact zZ (zZ (zJ2 hab hB))) ta134 rfl ⟨rfl, rfl⟩) (.cons (zT rfl rfl (by first | exact zZ (zZ hB) | exact zZ hB | exact zZ (zZ (zJ2 hab hB))) ta134 rfl ⟨rfl, rfl⟩) (.nil))) ?_
    refine zS rfl rfl (.cons (zP1 rfl zK0 sz137 rfl (.some rfl rfl) .none (by simp) (by simp) ⟨rfl, rfl⟩) (.cons (zP1 rfl zK0 sz137 rfl (.some rfl rfl) .none (by simp) (by simp) ⟨rfl, rfl⟩) (.nil))) ?_
    rw [drop1]
    refine zX0 rfl rfl rfl rfl (zS2 rfl rfl rfl sz137 rfl rfl (zA rfl) ⟨rfl, rfl⟩) <| zX0 rfl rfl rfl rfl (zC3 rfl rfl rfl (by first | exact hB | exact zJ2 hab hB) sz134 rfl rfl (zA rfl) ⟨rfl, by rw [hUB]; rfl⟩) ?_
    refine zL0 <| zB ?_
    rcases Nat.lt_or_eq_of_le hj with hjm | hjm
    ·
     refine qR rfl <| qM rfl rfl rfl <| qO rfl <| zT rfl rfl (zR2 hlT) ta137 rfl <| qO rfl <| (hyt j _ hjm hy).at2 rfl rfl rfl <| qO rfl <| zG1 rfl rfl <| qN <| zL rfl (rfl) <| zA0 ?_
     refine ⟨⟨j + 1, J ++ [_]⟩, by dsimp only; omega, ⟨by dsimp only; omega, by dsimp only; rw [restE, hR, hst]; exact hnx⟩, zC0 .., (.keep rfl (.keep rfl (.keep rfl (.keep rfl (.nil))))), (.nil)⟩
    ·
     refine qR rfl <| qM rfl rfl rfl <| qO rfl <| zT rfl rfl (zR2 hlT) ta137 rfl <| qO rfl <| (hyf j _ hjm hy).at2 rfl rfl rfl <| qO rfl <| zG1 rfl rfl <| qN <| zW rfl (rfl) <| zK ?_
     rw [zC0]
     exact zV3 (S' := T (j + 1)) (by simp) zB6 (by rw [(hok _).1, (hok _).1]; exact Nat.le_refl _) (hok _).2 ⟨rfl, by rw [hjm, if_pos (by omega)]⟩
   ·
    have hgt : ¬ cmp y.1 x.1 < 0 := by simpa using h58
    have hst : stepE cmp (x :: ra, y :: rb) = (ra, rb) := by rw [stepE, if_neg hlt, if_neg hgt]
    rw [mergeE, if_neg hlt, if_neg hgt] at he
    obtain ⟨hy, hnx⟩ := zQ1 he
    replace hy : ((mergeE cmp a b).map fun e => [encE encC e])[j]? = some [encE encC (x.1, x.2, some y.2)] := by rw [zQ0, hy]; rfl
    have hjl := (zI.1 hy).1
    have hUC : U j = ((T j).set ida (.cells [.lst none 3 (ra.map (encR encC))])).set idb (.cells [.lst none 3 (rb.map (encR encC))]) := by rw [hU, hst]
    refine zU0 [17, 18, 19] [_, (T j ++ J) ++ [.cells [encC x.1, .sptr (encV x.2).cells, .sptr (encV y.2).cells]], ((T j).set ida (.cells [.lst none 3 (ra.map (encR encC))]) ++ J) ++ [.cells [encC x.1, .sptr (encV x.2).cells, .sptr (encV y.2).cells]], (U j ++ J) ++ [.cells [encC x.1, .sptr (encV x.2).cells, .sptr (encV y.2).cells]]] mo (by decide) rfl rfl rfl rfl ?_
    refine dO rfl rfl rfl (zT rfl rfl (by first | exact zZ (zZ hA) | exact zZ hA) ta134 rfl ⟨rfl, rfl⟩) ?_
    refine dO rfl rfl rfl (zG rfl zK0 sz137 (by decide) rfl rfl rfl (show _ = some (encR encC x) from rfl) ⟨rfl, rfl⟩) ?_
    refine dO rfl rfl rfl (zP0 rfl rfl zJ6 ⟨rfl, rfl⟩) <| dO rfl rfl rfl (zH rfl rfl ta60 rfl ⟨rfl, rfl⟩) <| dO rfl rfl rfl (zT rfl rfl (by first | exact zZ (zZ hA) | exact zZ hA) ta134 rfl ⟨rfl, rfl⟩) ?_
    refine dO rfl rfl rfl (zG rfl zK0 sz137 (by decide) rfl rfl rfl (show _ = some (encR encC x) from rfl) ⟨rfl, rfl⟩) ?_
    refine dO rfl rfl rfl (zP0 rfl rfl fo137_1 ⟨rfl, rfl⟩) <| dO rfl rfl rfl (zH rfl rfl ta128 rfl ⟨rfl, rfl⟩) <| dO rfl rfl rfl (zT rfl rfl (by first | exact zZ (zZ hB) | exact zZ hB | exact zZ (zZ (zJ2 hab hB))) ta134 rfl ⟨rfl, rfl⟩) ?_
    refine dO rfl rfl rfl (zG rfl zK0 sz137 (by decide) rfl rfl rfl (show _ = some (encR encC y) from rfl) ⟨rfl, rfl⟩) ?_
    refine dO rfl rfl rfl (zP0 rfl rfl fo137_1 ⟨rfl, rfl⟩) <| dO rfl rfl rfl (zH rfl rfl ta128 rfl ⟨rfl, rfl⟩) <| dO rfl rfl rfl (zW1 rfl Tryz.underlying137 zm137 (.cons zJ6 sz60 rfl rfl (zA rfl) (.cons fo137_1 sz128 rfl rfl (zA rfl) (.cons fo137_2 sz128 rfl rfl (zA rfl) .nil))) (by kernel_rfl) ⟨rfl, rfl⟩) ?_
    refine zS rfl rfl (.cons (zT rfl rfl (by first | exact zZ (zZ hA) | exact zZ hA) ta134 rfl ⟨rfl, rfl⟩) (.cons (zT rfl rfl (by first | exact zZ (zZ hA) | exact zZ hA) ta134 rfl ⟨rfl, rfl⟩) (.nil))) ?_
    refine zS rfl rfl (.cons (zP1 rfl zK0 sz137 rfl (.some rfl rfl) .none (by simp) (by simp) ⟨rfl, rfl⟩) (.cons (zP1 rfl zK0 sz137 rfl (.some rfl rfl) .none (by simp) (by simp) ⟨rfl, rfl⟩) (.nil))) ?_
    rw [drop1]
    refine zS rfl rfl (.cons (zT rfl rfl (by first | exact zZ (zZ hB) | exact zZ hB | exact zZ (zZ (zJ2 hab hB))) ta134 rfl ⟨rfl, rfl⟩) (.cons (zT rfl rfl (by first | exact zZ (zZ hB) | exact zZ hB | exact zZ (zZ (zJ2 hab hB))) ta134 rfl ⟨rfl, rfl⟩) (.cons (zT rfl rfl (by first | exact zZ (zZ hB) | exact zZ hB | exact zZ (zZ (zJ2 hab hB))) ta134 rfl ⟨rfl, rfl⟩) (.nil)))) ?_
    refine zS rfl rfl (.cons (zP1 rfl zK0 sz137 rfl (.some rfl rfl) .none (by simp) (by simp) ⟨rfl, rfl⟩) (.cons (zP1 rfl zK0 sz137 rfl (.some rfl rfl) .none (by simp) (by simp) ⟨rfl, rfl⟩) (.cons (zP1 rfl zK0 sz137 rfl (.some rfl rfl) .none (by simp) (by simp) ⟨rfl, rfl⟩) (.nil)))) ?_
    rw [drop1]
    refine zX0 rfl rfl rfl rfl (zS2 rfl rfl rfl sz137 rfl rfl (zA rfl) ⟨rfl, rfl⟩) <| zX0 rfl rfl rfl rfl (zC3 rfl rfl rfl (hA) sz134 rfl rfl (zA rfl) ⟨rfl, rfl⟩) <| zX0 rfl rfl rfl rfl (zC3 rfl rfl rfl (by first | exact hB | exact zJ2 hab hB) sz134 rfl rfl (zA rfl) ⟨rfl, by rw [hUC]; rfl⟩) ?_
    refine zL0 <| zB ?_
    rcases Nat.lt_or_eq_of_le hj with hjm | hjm
    ·
     refine qR rfl <| qM rfl rfl rfl <| qO rfl <| zT rfl rfl (zR2 hlT) ta137 rfl <| qO rfl <| (hyt j _ hjm hy).at2 rfl rfl rfl <| qO rfl <| zG1 rfl rfl <| qN <| zL rfl (rfl) <| zA0 ?_
     refine ⟨⟨j + 1, J ++ [_]⟩, by dsimp only; omega, ⟨by dsimp only; omega, by dsimp only; rw [restE, hR, hst]; exact hnx⟩, zC0 .., (.keep rfl (.keep rfl (.keep rfl (.keep rfl (.nil))))), (.nil)⟩
    ·
     refine qR rfl <| qM rfl rfl rfl <| qO rfl <| zT rfl rfl (zR2 hlT) ta137 rfl <| qO rfl <| (hyf j _ hjm hy).at2 rfl rfl rfl <| qO rfl <| zG1 rfl rfl <| qN <| zW rfl (rfl) <| zK ?_
     rw [zC0]
     exact zV3 (S' := T (j + 1)) (by simp) zB6 (by rw [(hok _).1, (hok _).1]; exact Nat.le_refl _) (hok _).2 ⟨rfl, by rw [hjm, if_pos (by omega)]⟩
theorem _root_.zM0 : type_of% @Tryz.underlying125 := @Tryz.underlying125
theorem _root_.zC6 : type_of% @Tryz.results131 := @Tryz.results131
theorem xmerged_iter (cmp : Bs → Bs → Int) (kc : FuncId) (hcc : CallOk Tryz.prog kc) (hcmp : ∀ (k1 k2 : Bs) (S : MS), MCalls Tryz.prog kc ([] ++ [encX k1, encX k2] ++ []) S fun v σ' => v = .int .i64 (cmp k1 k2) ∧ σ' = S) (a b : List (REnt (Bs))) (ida idb idc l0 : Nat) (hab : ida ≠ idb) :
  IterOk2 Tryz.prog 131 [] [.ref ida 0, .ref idb 0, .ref idc 0] ((mergeE cmp a b).map fun e => [encE encX e]) (fun σ => σ.length = l0 ∧ ClS σ) (fun j σ τ => σ[ida]? = some (.cells [.lst none 3 ((restE cmp a b j).1.map (encR encX))]) ∧ σ[idb]? = some (.cells [.lst none 3 ((restE cmp a b j).2.map (encR encX))]) ∧ σ[idc]? = some (.cells [.fn (.func kc) [] []]) ∧ τ = (σ.set ida (.cells [.lst none 3 ((restE cmp a b (j + 1)).1.map (encR encX))])).set idb (.cells [.lst none 3 ((restE cmp a b (j + 1)).2.map (encR encX))])) := by
 refine iterOk2_of fun id T U m hok hoku hm hyt hyf => ?_
 have hml : ((mergeE cmp a b).map fun e => [encE encX e]).length = (mergeE cmp a b).length := zC ..
 refine zU Tryz.func131 rfl Tryz.ntmps131 (zA rfl) ?_
 rw [List.append_nil]
 show mwp _ _ _ _ _ _ _ (([] : MS) ++ T 0)
 refine zB0 ?_
 refine zV1 (α := Nat × MS) [(0, _), (1, _), (2, _), (3, _)] (fun x => []) (fun x => T x.1 ++ x.2) (fun x => x.1 ≤ m ∧ mergeE cmp (restE cmp a b x.1).1 (restE cmp a b x.1).2 = (mergeE cmp a b).drop x.1) (fun x => m + 1 - x.1) (⟨0, []⟩) (.keep rfl (.keep rfl (.keep rfl (.keep rfl (.nil))))) (.nil) (⟨by simp, rfl⟩) (by rw [List.append_nil]) ?_
 rintro ⟨j, J⟩ ⟨hj, he⟩
 dsimp only at hj he ⊢
 show mwp _ _ _ _ _ _ _ (T j ++ J)
 obtain ⟨hA, hB, hC, hU⟩ := hoku j hj
 obtain ⟨⟨ra, rb⟩, hR⟩ : ∃ p, restE cmp a b j = p := ⟨_, rfl⟩
 rw [restE, hR] at hU
 rw [hR] at hA hB he
 dsimp only at hA hB he
 have hlT : (U j).length = (T j).length := by rw [hU]; simp
 refine zB <| zB ?_
 rcases ra with _ | ⟨x, ra⟩ <;> rcases rb with _ | ⟨y, rb⟩
 ·
  rw [mergeE] at he
  have hdl := drop_nil_len he
  have hjm : j = m := by omega
  refine qR rfl <| qO rfl <| zT rfl rfl (by first | exact zZ (zZ hA) | exact zZ hA) ta125 rfl ?_
  refine qE rfl rfl zM0 rfl <| qC rfl rfl rfl rfl (gt_nil) <| qM rfl rfl rfl <| qO rfl <| zT rfl rfl (by first | exact zZ (zZ hB) | exact zZ hB | exact zZ (zZ (zJ2 hab hB))) ta125 rfl ?_
  refine qE rfl rfl zM0 rfl <| qC rfl rfl rfl rfl (gt_nil) <| qP rfl rfl rfl rfl <| qN <| zL rfl (rfl) <| zN1 ?_
  exact zV3 (S' := T j) (by simp) zC6 (by rw [(hok _).1, (hok _).1]; exact Nat.le_refl _) (hok _).2 ⟨rfl, by rw [hjm, if_neg (by omega)]⟩
 ·
  refine qR rfl <| qO rfl <| zT rfl rfl (by first | exact zZ (zZ hA) | exact zZ hA) ta125 rfl ?_
  refine qE rfl rfl zM0 rfl <| qC rfl rfl rfl rfl (gt_nil) <| qM rfl rfl rfl <| qO rfl <| zT rfl rfl (by first | exact zZ (zZ hB) | exact zZ hB | exact zZ (zZ (zJ2 hab hB))) ta125 rfl ?_
  refine qE rfl rfl zM0 rfl <| qC rfl rfl rfl rfl (gt_cons) <| qP rfl rfl rfl rfl <| qN <| zW rfl (rfl) <| zA0 <| zB0 <| zB <| qR rfl <| qO rfl <| zV5 rfl zm130 <| qN <| zB <| zB0 <| zB ?_
  refine zU0 [] [_] mo (by decide) rfl rfl rfl rfl ?_
  refine dO rfl rfl rfl (zT rfl rfl (by first | exact zZ (zZ hB) | exact zZ hB | exact zZ (zZ (zJ2 hab hB))) ta125 rfl ⟨rfl, rfl⟩) ?_
  refine dO rfl rfl rfl (zT1 rfl zM0 rfl ⟨rfl, rfl⟩) <| dO rfl rfl rfl (zE2 rfl rfl rfl (zU5) ⟨rfl, rfl⟩) <| dO rfl rfl rfl (zV rfl rfl ⟨rfl, rfl⟩) <| dO rfl rfl rfl (zT rfl rfl (by first | exact zZ (zZ hA) | exact zZ hA) ta125 rfl ⟨rfl, rfl⟩) ?_
  refine dO rfl rfl rfl (zT1 rfl zM0 rfl ⟨rfl, rfl⟩) <| dO rfl rfl rfl (zE2 rfl rfl rfl (gt_nil) ⟨rfl, rfl⟩) <| dO rfl rfl rfl (zV rfl rfl ⟨rfl, rfl⟩) <| dS rfl rfl <| dS rfl rfl <| dS rfl rfl <| dS rfl rfl <| dS rfl rfl <| dS rfl rfl <| dS rfl rfl <| dS rfl rfl <| dS rfl rfl <| dS rfl rfl <| dS rfl rfl <| dO rfl rfl rfl (zE1 rfl rfl rfl ⟨rfl, rfl⟩) <| dO rfl rfl rfl (zE1 rfl rfl rfl ⟨rfl, rfl⟩) <| dO rfl rfl rfl (zB1 rfl rfl ⟨rfl, rfl⟩) <| zL0 <| zL rfl (rfl) <| zB ?_
  refine zU0 [] [_] mo (by decide) rfl rfl rfl rfl ?_
  refine dO rfl rfl rfl (zT rfl rfl (by first | exact zZ (zZ hA) | exact zZ hA) ta125 rfl ⟨rfl, rfl⟩) ?_
  refine dO rfl rfl rfl (zT1 rfl zM0 rfl ⟨rfl, rfl⟩) <| dO rfl rfl rfl (zE2 rfl rfl rfl (eq_nil) ⟨rfl, rfl⟩) <| dO rfl rfl rfl (zV rfl rfl ⟨rfl, rfl⟩) <| dS rfl rfl <| dS rfl rfl <| dS rfl rfl <| dS rfl rfl <| dS rfl rfl <| dS rfl rfl <| dS rfl rfl <| dS rfl rfl <| dS rfl rfl <| dS rfl rfl <| dS rfl rfl <| dO rfl rfl rfl (zE1 rfl rfl rfl ⟨rfl, rfl⟩) <| dO rfl rfl rfl (zB1 rfl rfl ⟨rfl, rfl⟩) <| zL0 <| zW rfl (rfl) ?_
  have hst : stepE cmp ([], y :: rb) = ([], rb) := by rw [stepE]
  rw [mergeE] at he
  obtain ⟨hy, hnx⟩ := zQ1 he
  replace hy : ((mergeE cmp a b).map fun e => [encE encX e])[j]? = some [encE encX (y.1, y.2, none)] := by rw [zQ0, hy]; rfl
  have hjl := (zI.1 hy).1
  have hUB : U j = (T j).set idb (.cells [.lst none 3 (rb.map (encR encX))]) := by rw [hU, hst, zN5 hA]
  refine zU0 [5, 6] [_, (T j ++ J) ++ [.cells [encX y.1, .sptr (encV y.2).cells, .ptr0]], (U j ++ J) ++ [.cells [encX y.1, .sptr (encV y.2).cells, .ptr0]]] mo (by decide) rfl rfl rfl rfl ?_
  refine dO rfl rfl rfl (zT rfl rfl (by first | exact zZ (zZ hB) | exact zZ hB | exact zZ (zZ (zJ2 hab hB))) ta125 rfl ⟨rfl, rfl⟩) ?_
  refine dO rfl rfl rfl (zG rfl zM0 sz130 (by decide) rfl rfl rfl (show _ = some (encR encX y) from rfl) ⟨rfl, rfl⟩) ?_
  refine dO rfl rfl rfl (zH rfl rfl ta130 rfl ⟨rfl, rfl⟩) <| zS rfl rfl (.cons (zT rfl rfl (by first | exact zZ (zZ hB) | exact zZ hB | exact zZ (zZ (zJ2 hab hB))) ta125 rfl ⟨rfl, rfl⟩) (.cons (zT rfl rfl (by first | exact zZ (zZ hB) | exact zZ hB | exact zZ (zZ (zJ2 hab hB))) ta125 rfl ⟨rfl, rfl⟩) (.nil))) ?_
  refine zS rfl rfl (.cons (zP1 rfl zM0 sz130 rfl (.some rfl rfl) .none (by simp) (by simp) ⟨rfl, rfl⟩) (.cons (zP1 rfl zM0 sz130 rfl (.some rfl rfl) .none (by simp) (by simp) ⟨rfl, rfl⟩) (.nil))) ?_
  rw [drop1]
  refine zX0 rfl rfl rfl rfl (zS2 rfl rfl rfl sz130 rfl rfl (zA rfl) ⟨rfl, rfl⟩) <| zX0 rfl rfl rfl rfl (zC3 rfl rfl rfl (by first | exact hB | exact zJ2 hab hB) sz125 rfl rfl (zA rfl) ⟨rfl, by rw [hUB]; rfl⟩) ?_
  refine zL0 <| zB ?_
  rcases Nat.lt_or_eq_of_le hj with hjm | hjm
  ·
   refine qR rfl <| qM rfl rfl rfl <| qO rfl <| zT rfl rfl (zR2 hlT) ta130 rfl <| qO rfl <| (hyt j _ hjm hy).at2 rfl rfl rfl <| qO rfl <| zG1 rfl rfl <| qN <| zL rfl (rfl) <| zA0 ?_
   refine ⟨⟨j + 1, J ++ [_]⟩, by dsimp only; omega, ⟨by dsimp only; omega, by dsimp only; rw [restE, hR, hst]; exact hnx⟩, zC0 .., (.keep rfl (.keep rfl (.keep rfl (.keep rfl (.nil))))), (.nil)⟩
  ·
   refine qR rfl <| qM rfl rfl rfl <| qO rfl <| zT rfl rfl (zR2 hlT) ta130 rfl <| qO rfl <| (hyf j _ hjm hy).at2 rfl rfl rfl <| qO rfl <| zG1 rfl rfl <| qN <| zW rfl (rfl) <| zK ?_
   rw [zC0]
   exact zV3 (S' := T (j + 1)) (by simp) zC6 (by rw [(hok _).1, (hok _).1]; exact Nat.le_refl _) (hok _).2 ⟨rfl, by rw [hjm, if_pos (by omega)]⟩
 ·
  refine qR rfl <| qO rfl <| zT rfl rfl (by first | exact zZ (zZ hA) | exact zZ hA) ta125 rfl ?_
  refine qE rfl rfl zM0 rfl <| qC rfl rfl rfl rfl (gt_cons) <| qM rfl rfl rfl <| qS rfl <| qS rfl <| qS rfl <| qP rfl rfl rfl rfl <| qN <| zW rfl (rfl) <| zA0 <| zB0 <| zB <| qR rfl <| qO rfl <| zV5 rfl zm130 <| qN <| zB <| zB0 <| zB ?_
  refine zU0 [] [_] mo (by decide) rfl rfl rfl rfl ?_
  refine dO rfl rfl rfl (zT rfl rfl (by first | exact zZ (zZ hB) | exact zZ hB | exact zZ (zZ (zJ2 hab hB))) ta125 rfl ⟨rfl, rfl⟩) ?_
  refine dO rfl rfl rfl (zT1 rfl zM0 rfl ⟨rfl, rfl⟩) <| dO rfl rfl rfl (zE2 rfl rfl rfl (eq_nil) ⟨rfl, rfl⟩) <| dO rfl rfl rfl (zV rfl rfl ⟨rfl, rfl⟩) <| dS rfl rfl <| dS rfl rfl <| dS rfl rfl <| dS rfl rfl <| dS rfl rfl <| dS rfl rfl <| dS rfl rfl <| dS rfl rfl <| dS rfl rfl <| dS rfl rfl <| dS rfl rfl <| dS rfl rfl <| dS rfl rfl <| dS rfl rfl <| dS rfl rfl <| dS rfl rfl <| dO rfl rfl rfl (zE1 rfl rfl rfl ⟨rfl, rfl⟩) <| dO rfl rfl rfl (zB1 rfl rfl ⟨rfl, rfl⟩) <| zL0 <| zW rfl (rfl) ?_
  have hst : stepE cmp (x :: ra, []) = (ra, []) := by rw [stepE]
  rw [mergeE] at he
  obtain ⟨hy, hnx⟩ := zQ1 he
  replace hy : ((mergeE cmp a b).map fun e => [encE encX e])[j]? = some [encE encX (x.1, x.2, none)] := by rw [zQ0, hy]; rfl
  have hjl := (zI.1 hy).1
  have hUA : U j = (T j).set ida (.cells [.lst none 3 (ra.map (encR encX))]) := by rw [hU, hst]; exact zN5 (zJ2 hab hB)
  refine zU0 [5, 6] [_, (T j ++ J) ++ [.cells [encX x.1, .sptr (encV x.2).cells, .ptr0]], (U j ++ J) ++ [.cells [encX x.1, .sptr (encV x.2).cells, .ptr0]]] mo (by decide) rfl rfl rfl rfl ?_
  refine dO rfl rfl rfl (zT rfl rfl (by first | exact zZ (zZ hA) | exact zZ hA) ta125 rfl ⟨rfl, rfl⟩) ?_
  refine dO rfl rfl rfl (zG rfl zM0 sz130 (by decide) rfl rfl rfl (show _ = some (encR encX x) from rfl) ⟨rfl, rfl⟩) ?_
  refine dO rfl rfl rfl (zH rfl rfl ta130 rfl ⟨rfl, rfl⟩) <| zS rfl rfl (.cons (zT rfl rfl (by first | exact zZ (zZ hA) | exact zZ hA) ta125 rfl ⟨rfl, rfl⟩) (.cons (zT rfl rfl (by first | exact zZ (zZ hA) | exact zZ hA) ta125 rfl ⟨rfl, rfl⟩) (.nil))) ?_
  refine zS rfl rfl (.cons (zP1 rfl zM0 sz130 rfl (.some rfl rfl) .none (by simp) (by simp) ⟨rfl, rfl⟩) (.cons (zP1 rfl zM0 sz130 rfl (.some rfl rfl) .none (by simp) (by simp) ⟨rfl, rfl⟩) (.nil))) ?_
  rw [drop1]
  refine zX0 rfl rfl rfl rfl (zS2 rfl rfl rfl sz130 rfl rfl (zA rfl) ⟨rfl, rfl⟩) <| zX0 rfl rfl rfl rfl (zC3 rfl rfl rfl (hA) sz125 rfl rfl (zA rfl) ⟨rfl, by rw [hUA]; rfl⟩) ?_
  refine zL0 <| zB ?_
  rcases Nat.lt_or_eq_of_le hj with hjm | hjm
  ·
   refine qR rfl <| qM rfl rfl rfl <| qO rfl <| zT rfl rfl (zR2 hlT) ta130 rfl <| qO rfl <| (hyt j _ hjm hy).at2 rfl rfl rfl <| qO rfl <| zG1 rfl rfl <| qN <| zL rfl (rfl) <| zA0 ?_
   refine ⟨⟨j + 1, J ++ [_]⟩, by dsimp only; omega, ⟨by dsimp only; omega, by dsimp only; rw [restE, hR, hst]; exact hnx⟩, zC0 .., (.keep rfl (.keep rfl (.keep rfl (.keep rfl (.nil))))), (.nil)⟩
  ·
   refine qR rfl <| qM rfl rfl rfl <| qO rfl <| zT rfl rfl (zR2 hlT) ta130 rfl <| qO rfl <| (hyf j _ hjm hy).at2 rfl rfl rfl <| qO rfl <| zG1 rfl rfl <| qN <| zW rfl (rfl) <| zK ?_
   rw [zC0]
   exact zV3 (S' := T (j + 1)) (by simp) zC6 (by rw [(hok _).1, (hok _).1]; exact Nat.le_refl _) (hok _).2 ⟨rfl, by rw [hjm, if_pos (by omega)]⟩
 ·
  refine qR rfl <| qO rfl <| zT rfl rfl (by first | exact zZ (zZ hA) | exact zZ hA) ta125 rfl ?_
  refine qE rfl rfl zM0 rfl <| qC rfl rfl rfl rfl (gt_cons) <| qM rfl rfl rfl <| qS rfl <| qS rfl <| qS rfl <| qP rfl rfl rfl rfl <| qN <| zW rfl (rfl) <| zA0 <| zB0 <| zB <| qR rfl <| qO rfl <| zV5 rfl zm130 <| qN <| zB <| zB0 <| zB ?_
  refine zU0 [] [_] mo (by decide) rfl rfl rfl rfl ?_
  refine dO rfl rfl rfl (zT rfl rfl (by first | exact zZ (zZ hB) | exact zZ hB | exact zZ (zZ (zJ2 hab hB))) ta125 rfl ⟨rfl, rfl⟩) ?_
  refine dO rfl rfl rfl (zT1 rfl zM0 rfl ⟨rfl, rfl⟩) <| dO rfl rfl rfl (zE2 rfl rfl rfl (zU5) ⟨rfl, rfl⟩) <| dO rfl rfl rfl (zV rfl rfl ⟨rfl, rfl⟩) <| dO rfl rfl rfl (zT rfl rfl (by first | exact zZ (zZ hA) | exact zZ hA) ta125 rfl ⟨rfl, rfl⟩) ?_
  refine dO rfl rfl rfl (zT1 rfl zM0 rfl ⟨rfl, rfl⟩) <| dO rfl rfl rfl (zE2 rfl rfl rfl (gt_cons) ⟨rfl, rfl⟩) <| dO rfl rfl rfl (zV rfl rfl ⟨rfl, rfl⟩) ?_
  refine zS rfl rfl (.cons (zT rfl rfl (zZ (zZ hC)) ta127 rfl ⟨rfl, rfl⟩) .nil) ?_
  refine dO rfl rfl rfl (zT rfl rfl (by first | exact zZ (zZ hA) | exact zZ hA) ta125 rfl ⟨rfl, rfl⟩) ?_
  refine dO rfl rfl rfl (zG rfl zM0 sz130 (by decide) rfl rfl rfl (show _ = some (encR encX x) from rfl) ⟨rfl, rfl⟩) ?_
  refine dO rfl rfl rfl (zP0 rfl rfl fo130_0 ⟨rfl, rfl⟩) <| dO rfl rfl rfl (zH rfl rfl ta9 rfl ⟨rfl, rfl⟩) <| dO rfl rfl rfl (zT rfl rfl (by first | exact zZ (zZ hB) | exact zZ hB | exact zZ (zZ (zJ2 hab hB))) ta125 rfl ⟨rfl, rfl⟩) ?_
  refine dO rfl rfl rfl (zG rfl zM0 sz130 (by decide) rfl rfl rfl (show _ = some (encR encX y) from rfl) ⟨rfl, rfl⟩) ?_
  refine dO rfl rfl rfl (zP0 rfl rfl fo130_0 ⟨rfl, rfl⟩) <| dO rfl rfl rfl (zH rfl rfl ta9 rfl ⟨rfl, rfl⟩) <| zS rfl rfl (.cons (zH1 rfl rfl rfl hcc (hcmp x.1 y.1 _)) .nil) <| dO rfl rfl rfl (zE2 rfl rfl rfl rfl ⟨rfl, rfl⟩) <| dO rfl rfl rfl (zE1 rfl rfl rfl ⟨rfl, rfl⟩) <| dO rfl rfl rfl (zE1 rfl rfl rfl ⟨rfl, rfl⟩) <| dO rfl rfl rfl (zB1 rfl rfl ⟨rfl, rfl⟩) <| zL0 ?_
  refine zJ rfl (fun h31 => ?_) (fun h31 => ?_)
  ·
   have hlt : cmp x.1 y.1 < 0 := by simpa using h31
   have hst : stepE cmp (x :: ra, y :: rb) = (ra, y :: rb) := by rw [stepE, if_pos hlt]
   rw [mergeE, if_pos hlt] at he
   obtain ⟨hy, hnx⟩ := zQ1 he
   replace hy : ((mergeE cmp a b).map fun e => [encE encX e])[j]? = some [encE encX (x.1, x.2, none)] := by rw [zQ0, hy]; rfl
   have hjl := (zI.1 hy).1
   have hUA : U j = (T j).set ida (.cells [.lst none 3 (ra.map (encR encX))]) := by rw [hU, hst]; exact zN5 (zJ2 hab hB)
   refine zU0 [5, 6] [_, (T j ++ J) ++ [.cells [encX x.1, .sptr (encV x.2).cells, .ptr0]], (U j ++ J) ++ [.cells [encX x.1, .sptr (encV x.2).cells, .ptr0]]] mo (by decide) rfl rfl rfl rfl ?_
   refine dO rfl rfl rfl (zT rfl rfl (by first | exact zZ (zZ hA) | exact zZ hA) ta125 rfl ⟨rfl, rfl⟩) ?_
   refine dO rfl rfl rfl (zG rfl zM0 sz130 (by decide) rfl rfl rfl (show _ = some (encR encX x) from rfl) ⟨rfl, rfl⟩) ?_
   refine dO rfl rfl rfl (zH rfl rfl ta130 rfl ⟨rfl, rfl⟩) <| zS rfl rfl (.cons (zT rfl rfl (by first | exact zZ (zZ hA) | exact zZ hA) ta125 rfl ⟨rfl, rfl⟩) (.cons (zT rfl rfl (by first | exact zZ (zZ hA) | exact zZ hA) ta125 rfl ⟨rfl, rfl⟩) (.nil))) ?_
   refine zS rfl rfl (.cons (zP1 rfl zM0 sz130 rfl (.some rfl rfl) .none (by simp) (by simp) ⟨rfl, rfl⟩) (.cons (zP1 rfl zM0 sz130 rfl (.some rfl rfl) .none (by simp) (by simp) ⟨rfl, rfl⟩) (.nil))) ?_
   rw [drop1]
   refine zX0 rfl rfl rfl rfl (zS2 rfl rfl rfl sz130 rfl rfl (zA rfl) ⟨rfl, rfl⟩) <| zX0 rfl rfl rfl rfl (zC3 rfl rfl rfl (hA) sz125 rfl rfl (zA rfl) ⟨rfl, by rw [hUA]; rfl⟩) ?_
   refine zL0 <| zB ?_
   rcases Nat.lt_or_eq_of_le hj with hjm | hjm
   ·
    refine qR rfl <| qM rfl rfl rfl <| qO rfl <| zT rfl rfl (zR2 hlT) ta130 rfl <| qO rfl <| (hyt j _ hjm hy).at2 rfl rfl rfl <| qO rfl <| zG1 rfl rfl <| qN <| zL rfl (rfl) <| zA0 ?_
    refine ⟨⟨j + 1, J ++ [_]⟩, by dsimp only; omega, ⟨by dsimp only; omega, by dsimp only; rw [restE, hR, hst]; exact hnx⟩, zC0 .., (.keep rfl (.keep rfl (.keep rfl (.keep rfl (.nil))))), (.nil)⟩
   ·
    refine qR rfl <| qM rfl rfl rfl <| qO rfl <| zT rfl rfl (zR2 hlT) ta130 rfl <| qO rfl <| (hyf j _ hjm hy).at2 rfl rfl rfl <| qO rfl <| zG1 rfl rfl <| qN <| zW rfl (rfl) <| zK ?_
    rw [zC0]
    exact zV3 (S' := T (j + 1)) (by simp) zC6 (by rw [(hok _).1, (hok _).1]; exact Nat.le_refl _) (hok _).2 ⟨rfl, by rw [hjm, if_pos (by omega)]⟩
  ·
   have hlt : ¬ cmp x.1 y.1 < 0 := by simpa using h31
   refine zB ?_
   refine zU0 [] [_] mo (by decide) rfl rfl rfl rfl ?_
   refine dO rfl rfl rfl (zT rfl rfl (by first | exact zZ (zZ hA) | exact zZ hA) ta125 rfl ⟨rfl, rfl⟩) ?_
   refine dO rfl rfl rfl (zT1 rfl zM0 rfl ⟨rfl, rfl⟩) <| dO rfl rfl rfl (zE2 rfl rfl rfl (zU5) ⟨rfl, rfl⟩) <| dO rfl rfl rfl (zV rfl rfl ⟨rfl, rfl⟩) ?_
   refine zS rfl rfl (.cons (zT rfl rfl (zZ (zZ hC)) ta127 rfl ⟨rfl, rfl⟩) .nil) ?_
   refine dO rfl rfl rfl (zT rfl rfl (by first | exact zZ (zZ hB) | exact zZ hB | exact zZ (zZ (zJ2 hab hB))) ta125 rfl ⟨rfl, rfl⟩) ?_
   refine dO rfl rfl rfl (zG rfl zM0 sz130 (by decide) rfl rfl rfl (show _ = some (encR encX y) from rfl) ⟨rfl, rfl⟩) ?_
   refine dO rfl rfl rfl (zP0 rfl rfl fo130_0 ⟨rfl, rfl⟩) <| dO rfl rfl rfl (zH rfl rfl ta9 rfl ⟨rfl, rfl⟩) <| dO rfl rfl rfl (zT rfl rfl (by first | exact zZ (zZ hA) | exact zZ hA) ta125 rfl ⟨rfl, rfl⟩) ?_
   refine dO rfl rfl rfl (zG rfl zM0 sz130 (by decide) rfl rfl rfl (show _ = some (encR encX x) from rfl) ⟨rfl, rfl⟩) ?_
   refine dO rfl rfl rfl (zP0 rfl rfl fo130_0 ⟨rfl, rfl⟩) <| dO rfl rfl rfl (zH rfl rfl ta9 rfl ⟨rfl, rfl⟩) <| zS rfl rfl (.cons (zH1 rfl rfl rfl hcc (hcmp y.1 x.1 _)) .nil) <| dO rfl rfl rfl (zE2 rfl rfl rfl rfl ⟨rfl, rfl⟩) <| dO rfl rfl rfl (zE1 rfl rfl rfl ⟨rfl, rfl⟩) <| dO rfl rfl rfl (zB1 rfl rfl ⟨rfl, rfl⟩) <| zL0 ?_
   refine zJ rfl (fun h58 => ?_) (fun h58 => ?_)
   ·
    have hgt : cmp y.1 x.1 < 0 := by simpa using h58
    have hst : stepE cmp (x :: ra, y :: rb) = (x :: ra, rb) := by rw [stepE, if_neg hlt, if_pos hgt]
    rw [mergeE, if_neg hlt, if_pos hgt] at he
    obtain ⟨hy, hnx⟩ := zQ1 he
    replace hy : ((mergeE cmp a b).map fun e => [encE encX e])[j]? = some [encE encX (y.1, y.2, none)] := by rw [zQ0, hy]; rfl
    have hjl := (zI.1 hy).1
    have hUB : U j = (T j).set idb (.cells [.lst none 3 (rb.map (encR encX))]) := by rw [hU, hst, zN5 hA]
    refine zU0 [5, 6] [_, (T j ++ J) ++ [.cells [encX y.1, .sptr (encV y.2).cells, .ptr0]], (U j ++ J) ++ [.cells [encX y.1, .sptr (encV y.2).cells, .ptr0]]] mo (by decide) rfl rfl rfl rfl ?_
    refine dO rfl rfl rfl (zT rfl rfl (by first | exact zZ (zZ hB) | exact zZ hB | exact zZ (zZ (zJ2 hab hB))) ta125 rfl ⟨rfl, rfl⟩) ?_
    refine dO rfl rfl rfl (zG rfl zM0 sz130 (by decide) rfl rfl rfl (show _ = some (encR encX y) from rfl) ⟨rfl, rfl⟩) ?_
    refine dO rfl rfl rfl (zH rfl rfl ta130 rfl ⟨rfl, rfl⟩) <| zS rfl rfl (.cons (zT rfl rfl (by first | exact zZ (zZ hB) | exact zZ hB | exact zZ (zZ (zJ2 hab hB))) ta125 rfl ⟨rfl, rfl⟩) (.cons (zT rfl rfl (by first | exact zZ (zZ hB) | exact zZ hB | exact zZ (zZ (zJ2 hab hB))) ta125 rfl ⟨rfl, rfl⟩) (.nil))) ?_
    refine zS rfl rfl (.cons (zP1 rfl zM0 sz130 rfl (.some rfl rfl) .none (by simp) (by simp) ⟨rfl, rfl⟩) (.cons (zP1 rfl zM0 sz130 rfl (.some rfl rfl) .none (by simp) (by simp) ⟨rfl, rfl⟩) (.nil))) ?_
    rw [drop1]
    refine zX0 rfl rfl rfl rfl (zS2 rfl rfl rfl sz130 rfl rfl (zA rfl) ⟨rfl, rfl⟩) <| zX0 rfl rfl rfl rfl (zC3 rfl rfl rfl (by first | exact hB | exact zJ2 hab hB) sz125 rfl rfl (zA rfl) ⟨rfl, by rw [hUB]; rfl⟩) ?_
    refine zL0 <| zB ?_
    rcases Nat.lt_or_eq_of_le hj with hjm | hjm
    ·
     refine qR rfl <| qM rfl rfl rfl <| qO rfl <| zT rfl rfl (zR2 hlT) ta130 rfl <| qO rfl <| (hyt j _ hjm hy).at2 rfl rfl rfl <| qO rfl <| zG1 rfl rfl <| qN <| zL rfl (rfl) <| zA0 ?_
     refine ⟨⟨j + 1, J ++ [_]⟩, by dsimp only; omega, ⟨by dsimp only; omega, by dsimp only; rw [restE, hR, hst]; exact hnx⟩, zC0 .., (.keep rfl (.keep rfl (.keep rfl (.keep rfl (.nil))))), (.nil)⟩
    ·
     refine qR rfl <| qM rfl rfl rfl <| qO rfl <| zT rfl rfl (zR2 hlT) ta130 rfl <| qO rfl <| (hyf j _ hjm hy).at2 rfl rfl rfl <| qO rfl <| zG1 rfl rfl <| qN <| zW rfl (rfl) <| zK ?_
     rw [zC0]
     exact zV3 (S' := T (j + 1)) (by simp) zC6 (by rw [(hok _).1, (hok _).1]; exact Nat.le_refl _) (hok _).2 ⟨rfl, by rw [hjm, if_pos (by omega)]⟩
   ·
    have hgt : ¬ cmp y.1 x.1 < 0 := by simpa using h58
    have hst : stepE cmp (x :: ra, y :: rb) = (ra, rb) := by rw [stepE, if_neg hlt, if_neg hgt]
    rw [mergeE, if_neg hlt, if_neg hgt] at he
    obtain ⟨hy, hnx⟩ := zQ1 he
    replace hy : ((mergeE cmp a b).map fun e => [encE encX e])[j]? = some [encE encX (x.1, x.2, some y.2)] := by rw [zQ0, hy]; rfl
    have hjl := (zI.1 hy).1
    have hUC : U j = ((T j).set ida (.cells [.lst none 3 (ra.map (encR encX))])).set idb (.cells [.lst none 3 (rb.map (encR encX))]) := by rw [hU, hst]
    refine zU0 [17, 18, 19] [_, (T j ++ J) ++ [.cells [encX x.1, .sptr (encV x.2).cells, .sptr (encV y.2).cells]], ((T j).set ida (.cells [.lst none 3 (ra.map (encR encX))]) ++ J) ++ [.cells [encX x.1, .sptr (encV x.2).cells, .sptr (encV y.2).cells]], (U j ++ J) ++ [.cells [encX x.1, .sptr (encV x.2).cells, .sptr (encV y.2).cells]]] mo (by decide) rfl rfl rfl rfl ?_
    refine dO rfl rfl rfl (zT rfl rfl (by first | exact zZ (zZ hA) | exact zZ hA) ta125 rfl ⟨rfl, rfl⟩) ?_
    refine dO rfl rfl rfl (zG rfl zM0 sz130 (by decide) rfl rfl rfl (show _ = some (encR encX x) from rfl) ⟨rfl, rfl⟩) ?_
    refine dO rfl rfl rfl (zP0 rfl rfl fo130_0 ⟨rfl, rfl⟩) <| dO rfl rfl rfl (zH rfl rfl ta9 rfl ⟨rfl, rfl⟩) <| dO rfl rfl rfl (zT rfl rfl (by first | exact zZ (zZ hA) | exact zZ hA) ta125 rfl ⟨rfl, rfl⟩) ?_
    refine dO rfl rfl rfl (zG rfl zM0 sz130 (by decide) rfl rfl rfl (show _ = some (encR encX x) from rfl) ⟨rfl, rfl⟩) ?_
    refine dO rfl rfl rfl (zP0 rfl rfl fo130_1 ⟨rfl, rfl⟩) <| dO rfl rfl rfl (zH rfl rfl ta128 rfl ⟨rfl, rfl⟩) <| dO rfl rfl rfl (zT rfl rfl (by first | exact zZ (zZ hB) | exact zZ hB | exact zZ (zZ (zJ2 hab hB))) ta125 rfl ⟨rfl, rfl⟩) ?_
    refine dO rfl rfl rfl (zG rfl zM0 sz130 (by decide) rfl rfl rfl (show _ = some (encR encX y) from rfl) ⟨rfl, rfl⟩) ?_
    refine dO rfl rfl rfl (zP0 rfl rfl fo130_1 ⟨rfl, rfl⟩) <| dO rfl rfl rfl (zH rfl rfl ta128 rfl ⟨rfl, rfl⟩) <| dO rfl rfl rfl (zW1 rfl Tryz.underlying130 zm130 (.cons fo130_0 sz9 rfl rfl (zA rfl) (.cons fo130_1 sz128 rfl rfl (zA rfl) (.cons fo130_2 sz128 rfl rfl (zA rfl) .nil))) (by kernel_rfl) ⟨rfl, rfl⟩) ?_
    refine zS rfl rfl (.cons (zT rfl rfl (by first | exact zZ (zZ hA) | exact zZ hA) ta125 rfl ⟨rfl, rfl⟩) (.cons (zT rfl rfl (by first | exact zZ (zZ hA) | exact zZ hA) ta125 rfl ⟨rfl, rfl⟩) (.nil))) ?_
    refine zS rfl rfl (.cons (zP1 rfl zM0 sz130 rfl (.some rfl rfl) .none (by simp) (by simp) ⟨rfl, rfl⟩) (.cons (zP1 rfl zM0 sz130 rfl (.some rfl rfl) .none (by simp) (by simp) ⟨rfl, rfl⟩) (.nil))) ?_
    rw [drop1]
    refine zS rfl rfl (.cons (zT rfl rfl (by first | exact zZ (zZ hB) | exact zZ hB | exact zZ (zZ (zJ2 hab hB))) ta125 rfl ⟨rfl, rfl⟩) (.cons (zT rfl rfl (by first | exact zZ (zZ hB) | exact zZ hB | exact zZ (zZ (zJ2 hab hB))) ta125 rfl ⟨rfl, rfl⟩) (.cons (zT rfl rfl (by first | exact zZ (zZ hB) | exact zZ hB | exact zZ (zZ (zJ2 hab hB))) ta125 rfl ⟨rfl, rfl⟩) (.nil)))) ?_
    refine zS rfl rfl (.cons (zP1 rfl zM0 sz130 rfl (.some rfl rfl) .none (by simp) (by simp) ⟨rfl, rfl⟩) (.cons (zP1 rfl zM0 sz130 rfl (.some rfl rfl) .none (by simp) (by simp) ⟨rfl, rfl⟩) (.cons (zP1 rfl zM0 sz130 rfl (.some rfl rfl) .none (by simp) (by simp) ⟨rfl, rfl⟩) (.nil)))) ?_
    rw [drop1]
    refine zX0 rfl rfl rfl rfl (zS2 rfl rfl rfl sz130 rfl rfl (zA rfl) ⟨rfl, rfl⟩) <| zX0 rfl rfl rfl rfl (zC3 rfl rfl rfl (hA) sz125 rfl rfl (zA rfl) ⟨rfl, rfl⟩) <| zX0 rfl rfl rfl rfl (zC3 rfl rfl rfl (by first | exact hB | exact zJ2 hab hB) sz125 rfl rfl (zA rfl) ⟨rfl, by rw [hUC]; rfl⟩) ?_
    refine zL0 <| zB ?_
    rcases Nat.lt_or_eq_of_le hj with hjm | hjm
    ·
     refine qR rfl <| qM rfl rfl rfl <| qO rfl <| zT rfl rfl (zR2 hlT) ta130 rfl <| qO rfl <| (hyt j _ hjm hy).at2 rfl rfl rfl <| qO rfl <| zG1 rfl rfl <| qN <| zL rfl (rfl) <| zA0 ?_
     refine ⟨⟨j + 1, J ++ [_]⟩, by dsimp only; omega, ⟨by dsimp only; omega, by dsimp only; rw [restE, hR, hst]; exact hnx⟩, zC0 .., (.keep rfl (.keep rfl (.keep rfl (.keep rfl (.nil))))), (.nil)⟩
    ·
     refine qR rfl <| qM rfl rfl rfl <| qO rfl <| zT rfl rfl (zR2 hlT) ta130 rfl <| qO rfl <| (hyf j _ hjm hy).at2 rfl rfl rfl <| qO rfl <| zG1 rfl rfl <| qN <| zW rfl (rfl) <| zK ?_
     rw [zC0]
     exact zV3 (S' := T (j + 1)) (by simp) zC6 (by rw [(hok _).1, (hok _).1]; exact Nat.le_refl _) (hok _).2 ⟨rfl, by rw [hjm, if_pos (by omega)]⟩
theorem set4 {S : MS} {i k : Nat} {a b c d : MObj} (h : i ≠ k) : (S.set i c).set k d = (((S.set i a).set k b).set i c).set k d := by
 rw [List.set_comm a b h, List.set_set, List.set_comm b c h.symm, List.set_set]
theorem stJ_cl {cmp : List Tk → List Tk → Int} {a b : List (REnt (List Tk))} {S L : MS} {ida idb j n : Nat} (hcl : ClS (S ++ L)) (hn : (S ++ L).length ≤ n) {o : MObj} (ho : o ∈ (S.set ida (.cells [.lst none 3 ((restE cmp a b j).1.map (encR encC))])).set idb (.cells [.lst none 3 ((restE cmp a b j).2.map (encR encC))])) : o.cl n := by
 have hr : ∀ l : List (REnt (List Tk)), (MObj.cells [.lst none 3 (l.map (encR encC))]).cl n := fun l x hx => by
  simp at hx
  subst hx
  exact cl_lst (cl_encR (fun n k => cl_encC n k) _) (fun _ => .inl rfl)
 rcases List.mem_or_eq_of_mem_set ho with ho | rfl
 ·rcases List.mem_or_eq_of_mem_set ho with ho | rfl
  ·obtain ⟨i, hi⟩ := List.getElem?_of_mem ho
   have := hcl i o (zZ hi)
   cases o with
   | cells l => exact fun x hx => (this x hx).mono hn
   | loop s p ls => exact fun t x hx => (this t x hx).mono hn
   | row _ _ _ => exact trivial
   | mp _ es => exact fun e he => (this e he).mono hn
   | mit m _ _ _ => exact Nat.lt_of_lt_of_le this hn
   | pin _ _ => exact trivial
   | tcells _ l => exact fun x hx => (this x hx).mono hn
   | orow _ _ _ l => exact fun x hx => (this x hx).mono hn
   | fixed _ _ => exact trivial
   | gone => exact trivial
  ·exact hr _
 ·exact hr _
theorem stJ_ClS {cmp : List Tk → List Tk → Int} {a b : List (REnt (List Tk))} {S : MS} {ida idb j : Nat} (hcl : ClS (S ++ [])) : ClS ((S.set ida (.cells [.lst none 3 ((restE cmp a b j).1.map (encR encC))])).set idb (.cells [.lst none 3 ((restE cmp a b j).2.map (encR encC))])) := fun i o hi => stJ_cl hcl (by simp) (zF0 hi)
theorem own_cl {A : MS} {t n ty k : Nat} {xs : List (Ent (List Tk))} (hA : ∀ n, t + 1 ≤ n → ∀ o, o ∈ A → o.cl n) (hn : t + 1 ≤ n) {o : MObj} (ho : o ∈ A ++ [.cells [.lst (some t) 3 (xs.map (encE encC))], .row ty 3 k]) : o.cl n := by
 rcases zS1.1 ho with ho | ho
 ·exact hA n hn o ho
 ·simp only [List.mem_cons, List.not_mem_nil, or_false] at ho
  rcases ho with rfl | rfl
  ·intro x hx
   simp at hx
   subst hx
   exact zR5 (by omega) (cl_encE (fun n k => cl_encC n k) _) (fun _ => .inl rfl)
  ·exact trivial
theorem encR_one {κ : Type} (ek : κ → MV) (e : REnt κ) : encR ek e = .agg (encR ek e).cells ∨ [encR ek e] = (encR ek e).cells := .inl rfl
theorem encE_one {κ : Type} (ek : κ → MV) (e : Ent κ) : encE ek e = .agg (encE ek e).cells ∨ [encE ek e] = (encE ek e).cells := .inl rfl
theorem zip_succ {α β : Type} {a : List α} {b : List β} {i : Nat} {x : α} {y : β} (hx : a[i]? = some x) (hy : b[i]? = some y) : (a.zip b).take (i + 1) = (a.zip b).take i ++ [(x, y)] := by
 have h : (a.zip b)[i]? = some (x, y) := List.getElem?_zip_eq_some.2 ⟨hx, hy⟩
 rw [List.take_add_one, h]
 rfl
theorem cmerged_spec (a b : List (REnt (List Tk))) (kc : FuncId) (S : MS) : MCalls Tryz.prog 100 [.lst none 3 (a.map (encR encC)), .lst none 3 (b.map (encR encC)), .fn (.func kc) [] []] S fun v σ' => v = .fn (.func 138) [] [.ref S.length 0, .ref (S.length + 1) 0, .ref (S.length + 2) 0] ∧ σ' = S ++ [.cells [.lst none 3 (a.map (encR encC))], .cells [.lst none 3 (b.map (encR encC))], .cells [.fn (.func kc) [] []]] := by
 refine zU Tryz.func100 rfl Tryz.ntmps100 (zA rfl) ?_
 refine zB <| qR rfl <| qB rfl rfl rfl rfl rfl <| qB rfl rfl rfl rfl rfl <| qB rfl rfl rfl rfl rfl <| qA rfl rfl rfl <| qN <| zB <| qR rfl <| qO rfl <| zP2 rfl rfl rfl <| qA rfl rfl rfl <| qN ?_
 refine zY1 fun hcv hcl => ?_
 refine zK ?_
 exact ret_tmpT (.inr rfl) Tryz.results100 rfl (.refl _) (hcv 6 _ rfl) (by simp) hcl ⟨rfl, rfl⟩
theorem crow_spec (keys : List (List Tk)) (vals : List Val) (hkv : keys.length = vals.length) (hk : keys.length ≤ 1000) (S : MS) : MCalls Tryz.prog 101 [.lst none 1 (keys.map encC), .lst none 5 (encVs vals)] S fun v σ' => v = .lst none 3 ((keys.zip vals).map (encR encC)) ∧ σ' = S := by
 refine zU Tryz.func101 rfl Tryz.ntmps101 (zA rfl) ?_
 refine zN2 (t := 0) rfl fun hlen => ?_
 rw [zC] at hlen
 refine zB <| qR rfl <| qA rfl rfl rfl <| qN <| zB <| qR rfl <| qA rfl rfl rfl <| qN <| zB <| zB <| qR rfl <| qM rfl rfl rfl <| qE rfl rfl zM rfl <| qM rfl rfl rfl <| qN <| zB0 <| mwp_row0 5 137 3 rfl (Nat.le_refl _) rfl rfl ?_
 refine zR4 (α := Nat) [(1, _), (8, _), (9, _)] (fun i => [(10, .int .i64 (i : Int)), (5, .lst (some (S.length + 0)) 3 (((keys.zip vals).take i).map (encR encC)))]) (fun i => [.row 137 3 ((keys.zip vals).take i).length]) (fun i => i ≤ keys.length) (fun i => keys.length - i) (0) (Nat.le_refl _) (.keep rfl (.keep rfl (.keep rfl (.nil)))) (.keep rfl (.keep rfl (.nil))) (by omega) (rfl) ?_
 rintro i hi
 have hzl : ((keys.zip vals).take i).length ≤ 1000 := by rw [List.length_take, List.length_zip]; omega
 refine zB <| qR rfl <| qC rfl rfl rfl rfl rfl <| qN <| zB ?_
 refine zJ rfl (fun h11 => ?_) (fun h11 => ?_)
 ·
  have hlt : i < keys.length := by simpa using h11
  obtain ⟨k, hs⟩ : ∃ q_, keys[i]? = some q_ := ⟨_, zD hlt⟩
  obtain ⟨v, hs2⟩ : ∃ q, vals[i]? = some q := ⟨_, zD (by omega)⟩
  refine zA0 <| zB <| zB0 <| zB <| qR rfl <| qM rfl rfl rfl <| qO rfl <| zG rfl zM sz60 (by decide) rfl rfl rfl (zV0 hs) ?_
  refine qO rfl <| zH rfl rfl ta60 rfl <| qA rfl rfl rfl <| qA rfl rfl rfl <| qN <| qR rfl <| qM rfl rfl rfl <| qM rfl rfl rfl <| qM rfl rfl rfl <| qM rfl rfl rfl <| qO rfl <| zG rfl zO sz30 (by decide) rfl rfl rfl (zZ1 hs2) ?_
  refine qO rfl <| zW1 rfl Tryz.underlying137 zm137 (.cons zJ6 sz60 rfl rfl (zA rfl) (.cons fo137_1 sz128 rfl rfl (zA rfl) .nil)) (by kernel_rfl) ?_
  refine qO rfl <| zC1 rfl zK0 el137 rfl rfl (by decide) (by decide) rfl rfl ?_
  refine qO rfl <| zC2 rfl zK0 el137 rfl rfl rfl (by simp) (by simp only [zC, zY, List.length_nil]; omega) (by simp only [zC, zY, List.length_nil]; omega) rfl ?_
  refine qA rfl rfl rfl <| qN <| qR rfl <| qO rfl <| zY0 rfl rfl rfl rfl <| qM rfl rfl rfl <| qN ?_
  refine ⟨i + 1, _, by omega, by omega, by rw [zip_succ hs hs2, zN]; rfl, .new trivial .nil, (.old rfl rfl (.old rfl rfl (.old rfl rfl (.nil)))), (.new' rfl (zM1 hlt hlen) (.int _ _) (.new' rfl (by rw [zip_succ hs hs2, List.map_append]; rfl) (zR5 (by simp) (cl_encR (fun n k => cl_encC n k) _) (encR_one _)) (.nil)))⟩
 ·
  have hge : i = keys.length := by simp at h11; omega
  refine zN1 <| zB <| qR rfl <| qM rfl rfl rfl <| qA rfl rfl rfl <| qN <| zK ?_
  exact zQ (.inr rfl) Tryz.results101 rfl (Sub.trans (.view _ _ _) (.of_eq (by rw [hge, List.take_of_length_le (by rw [List.length_zip]; omega)]))) (cl_lst (cl_encR (fun n k => cl_encC n k) _) (encR_one _)) ⟨rfl, rfl⟩
theorem xmerged_spec (a b : List (REnt (Bs))) (kc : FuncId) (S : MS) : MCalls Tryz.prog 92 [.lst none 3 (a.map (encR encX)), .lst none 3 (b.map (encR encX)), .fn (.func kc) [] []] S fun v σ' => v = .fn (.func 131) [] [.ref S.length 0, .ref (S.length + 1) 0, .ref (S.length + 2) 0] ∧ σ' = S ++ [.cells [.lst none 3 (a.map (encR encX))], .cells [.lst none 3 (b.map (encR encX))], .cells [.fn (.func kc) [] []]] := by
 refine zU Tryz.func92 rfl Tryz.ntmps92 (zA rfl) ?_
 refine zB <| qR rfl <| qB rfl rfl rfl rfl rfl <| qB rfl rfl rfl rfl rfl <| qB rfl rfl rfl rfl rfl <| qA rfl rfl rfl <| qN <| zB <| qR rfl <| qO rfl <| zP2 rfl rfl rfl <| qA rfl rfl rfl <| qN ?_
 refine zY1 fun hcv hcl => ?_
 refine zK ?_
 exact ret_tmpT (.inr rfl) Tryz.results92 rfl (.refl _) (hcv 6 _ rfl) (by simp) hcl ⟨rfl, rfl⟩
theorem xrow_spec (keys : List (Bs)) (vals : List Val) (hkv : keys.length = vals.length) (hk : keys.length ≤ 1000) (S : MS) : MCalls Tryz.prog 93 [.lst none 1 (keys.map encX), .lst none 5 (encVs vals)] S fun v σ' => v = .lst none 3 ((keys.zip vals).map (encR encX)) ∧ σ' = S := by
 refine zU Tryz.func93 rfl Tryz.ntmps93 (zA rfl) ?_
 refine zN2 (t := 0) rfl fun hlen => ?_
 rw [zC] at hlen
 refine zB <| qR rfl <| qA rfl rfl rfl <| qN <| zB <| qR rfl <| qA rfl rfl rfl <| qN <| zB <| zB <| qR rfl <| qM rfl rfl rfl <| qE rfl rfl zX rfl <| qM rfl rfl rfl <| qN <| zB0 <| mwp_row0 5 130 3 rfl (Nat.le_refl _) rfl rfl ?_
 refine zR4 (α := Nat) [(1, _), (8, _), (9, _)] (fun i => [(10, .int .i64 (i : Int)), (5, .lst (some (S.length + 0)) 3 (((keys.zip vals).take i).map (encR encX)))]) (fun i => [.row 130 3 ((keys.zip vals).take i).length]) (fun i => i ≤ keys.length) (fun i => keys.length - i) (0) (Nat.le_refl _) (.keep rfl (.keep rfl (.keep rfl (.nil)))) (.keep rfl (.keep rfl (.nil))) (by omega) (rfl) ?_
 rintro i hi
 have hzl : ((keys.zip vals).take i).length ≤ 1000 := by rw [List.length_take, List.length_zip]; omega
 refine zB <| qR rfl <| qC rfl rfl rfl rfl rfl <| qN <| zB ?_
 refine zJ rfl (fun h11 => ?_) (fun h11 => ?_)
 ·
  have hlt : i < keys.length := by simpa using h11
  obtain ⟨k, hs⟩ : ∃ q_, keys[i]? = some q_ := ⟨_, zD hlt⟩
  obtain ⟨v, hs2⟩ : ∃ q, vals[i]? = some q := ⟨_, zD (by omega)⟩
  refine zA0 <| zB <| zB0 <| zB <| qR rfl <| qM rfl rfl rfl <| qO rfl <| zG rfl zX sz9 (by decide) rfl rfl rfl (zV0 hs) ?_
  refine qO rfl <| zH rfl rfl ta9 rfl <| qA rfl rfl rfl <| qA rfl rfl rfl <| qN <| qR rfl <| qM rfl rfl rfl <| qM rfl rfl rfl <| qM rfl rfl rfl <| qM rfl rfl rfl <| qO rfl <| zG rfl zO sz30 (by decide) rfl rfl rfl (zZ1 hs2) ?_
  refine qO rfl <| zW1 rfl Tryz.underlying130 zm130 (.cons fo130_0 sz9 rfl rfl (zA rfl) (.cons fo130_1 sz128 rfl rfl (zA rfl) .nil)) (by kernel_rfl) ?_
  refine qO rfl <| zC1 rfl zM0 el130 rfl rfl (by decide) (by decide) rfl rfl ?_
  refine qO rfl <| zC2 rfl zM0 el130 rfl rfl rfl (by simp) (by simp only [zC, zY, List.length_nil]; omega) (by simp only [zC, zY, List.length_nil]; omega) rfl ?_
  refine qA rfl rfl rfl <| qN <| qR rfl <| qO rfl <| zY0 rfl rfl rfl rfl <| qM rfl rfl rfl <| qN ?_
  refine ⟨i + 1, _, by omega, by omega, by rw [zip_succ hs hs2, zN]; rfl, .new trivial .nil, (.old rfl rfl (.old rfl rfl (.old rfl rfl (.nil)))), (.new' rfl (zM1 hlt hlen) (.int _ _) (.new' rfl (by rw [zip_succ hs hs2, List.map_append]; rfl) (zR5 (by simp) (cl_encR (fun n k => cl_encX n k) _) (encR_one _)) (.nil)))⟩
 ·
  have hge : i = keys.length := by simp at h11; omega
  refine zN1 <| zB <| qR rfl <| qM rfl rfl rfl <| qA rfl rfl rfl <| qN <| zK ?_
  exact zQ (.inr rfl) Tryz.results93 rfl (Sub.trans (.view _ _ _) (.of_eq (by rw [hge, List.take_of_length_le (by rw [List.length_zip]; omega)]))) (cl_lst (cl_encR (fun n k => cl_encX n k) _) (encR_one _)) ⟨rfl, rfl⟩
theorem set2_app {A O C : MS} {i k : Nat} {a b a0 b0 : MObj} (hA : A[i]? = some a0) (hB : A[k]? = some b0) (hne : i ≠ k) : ((([] ++ (A ++ O)) ++ C).set i a).set k b = ([] ++ (((A.set i a).set k b) ++ O)) ++ C := by
 rw [List.nil_append, List.nil_append, set_app (zZ hA), set_app hA, set_app (zZ (zJ2 hne hB)), set_app (zJ2 hne hB)]
theorem get_nil_app {A : MS} {i : Nat} {o : MObj} (h : A[i]? = some o) : (([] : MS) ++ A)[i]? = some o := h
def stJ (cmp : List Tk → List Tk → Int) (a b : List (REnt (List Tk))) (S : MS) (ida idb j : Nat) : MS := (S.set ida (.cells [.lst none 3 ((restE cmp a b j).1.map (encR encC))])).set idb (.cells [.lst none 3 ((restE cmp a b j).2.map (encR encC))])
theorem stJ_len {cmp : List Tk → List Tk → Int} {a b : List (REnt (List Tk))} {S : MS} {ida idb j : Nat} : (stJ cmp a b S ida idb j).length = S.length := by simp [stJ]
theorem _root_.zD6 : type_of% @stJ_len := @stJ_len
theorem cl_entC (n : Nat) (e : Ent (List Tk)) : Cl n (encE encC e) := cl_encE (fun n k => cl_encC n k) n e
theorem appendSeq_spec (a b : List (REnt (List Tk))) (hab : a.length + b.length ≤ 1000) (kc : FuncId) (cmp : List Tk → List Tk → Int) (hcc : CallOk Tryz.prog kc) (hcmp : ∀ (k1 k2 : List Tk) (S : MS), MCalls Tryz.prog kc ([] ++ [encC k1, encC k2] ++ []) S fun v σ' => v = .int .i64 (cmp k1 k2) ∧ σ' = S) (ida idb idc : Nat) (hne : ida ≠ idb) (hnc : ida ≠ idc) (hnd : idb ≠ idc) (S : MS) (hA : S[ida]? = some (.cells [.lst none 3 (a.map (encR encC))])) (hB : S[idb]? = some (.cells [.lst none 3 (b.map (encR encC))])) (hC : S[idc]? = some (.cells [.fn (.func kc) [] []])) : MCalls Tryz.prog 137 [.lst0, .fn (.func 138) [] [.ref ida 0, .ref idb 0, .ref idc 0]] S fun v σ' => v = .lst none 3 ((mergeE cmp a b).map (encE encC)) ∧ σ' = stJ cmp a b S ida idb (mergeE cmp a b).length := by
 refine zU Tryz.func137 rfl Tryz.ntmps137 (zA rfl) ?_
 refine zY1 fun _ hcl0 => ?_
 refine zB <| qR rfl <| qB rfl rfl rfl rfl rfl <| qA rfl rfl rfl <| qN <| zB <| zB <| qR rfl <| qM rfl rfl rfl <| qN <| zB0 <| mwp_cellrow 0 137 3 rfl (Nat.le_refl _) rfl rfl ?_
 refine zY1 fun _ hcl => ?_
 have hS0 : stJ cmp a b S ida idb 0 = S := by unfold stJ; rw [restE, zN5 hA, zN5 hB]
 have hgA : ∀ j, (stJ cmp a b S ida idb j)[ida]? = some (.cells [.lst none 3 ((restE cmp a b j).1.map (encR encC))]) := fun j => by unfold stJ; exact zJ2 hne.symm (get_set hA)
 have hgB : ∀ j, (stJ cmp a b S ida idb j)[idb]? = some (.cells [.lst none 3 ((restE cmp a b j).2.map (encR encC))]) := fun j => by unfold stJ; exact get_set (zJ2 hne hB)
 have hgC : ∀ j, (stJ cmp a b S ida idb j)[idc]? = some (.cells [.fn (.func kc) [] []]) := fun j => by unfold stJ; exact zJ2 hnd (zJ2 hnc hC)
 have hstep : ∀ j, stJ cmp a b S ida idb (j + 1) = ((stJ cmp a b S ida idb j).set ida (.cells [.lst none 3 ((restE cmp a b (j + 1)).1.map (encR encC))])).set idb (.cells [.lst none 3 ((restE cmp a b (j + 1)).2.map (encR encC))]) := fun j => by unfold stJ; exact set4 hne
 have hcS : ∀ j n, S.length + 2 ≤ n → ∀ o, o ∈ stJ cmp a b S ida idb j → o.cl n := fun j n hn o ho => stJ_cl hcl (by simpa using hn) ho
 show mwp _ _ _ _ _ _ _ (([] : MS) ++ _)
 refine mwp_rangeC (L0 := _) .ret (.inl rfl) (fun j => true) (fun j => (stJ cmp a b S ida idb j ++ [.cells [.lst (some (S.length + 1)) 3 (((mergeE cmp a b).take j).map (encE encC))], .row 137 3 ((mergeE cmp a b).take j).length] : MS)) (fun j => (stJ cmp a b S ida idb (j + 1) ++ [.cells [.lst (some (S.length + 1)) 3 (((mergeE cmp a b).take j).map (encE encC))], .row 137 3 ((mergeE cmp a b).take j).length] : MS)) (fun j => (stJ cmp a b S ida idb j ++ [.cells [.lst (some (S.length + 1)) 3 (((mergeE cmp a b).take j).map (encE encC))], .row 137 3 ((mergeE cmp a b).take j).length] : MS)) (fun j => by simp [zD6]) (fun j => by simp [zD6]) (fun j => by simp [zD6]) (by rw [hS0]; rfl)
  (fun j o ho n hn => own_cl (hcS j) (by simpa [zD6] using hn) ho) (fun j o ho n hn => own_cl (hcS (j + 1)) (by simpa [zD6] using hn) ho) (fun j o ho n hn => own_cl (hcS j) (by simpa [zD6] using hn) ho) rfl co138 rfl (by simp [zD6]) (cmerged_iter cmp kc hcc hcmp a b ida idb idc (S.length + 3) hne) (fun j => by simp [zD6]) (fun j hj => ⟨zZ (get_nil_app (zZ (hgA j))), zZ (get_nil_app (zZ (hgB j))), zZ (get_nil_app (zZ (hgC j))), ?_⟩) (fun j s q => by simp [zD6]) rfl (fun y hy => by obtain ⟨i, _, rfl⟩ := List.mem_map.1 hy; rfl) ?_ ?_ ?_
 ·exact (congrArg (fun x => (([] : MS) ++ (x ++ _)) ++ _) (hstep j)).trans (set2_app (hgA j) (hgB j) hne).symm
 ·
  intro j y hy hbef L'
  rw [zQ0] at hy
  obtain ⟨⟨kk, v, o⟩, hp, rfl⟩ := Option.map_eq_some_iff.1 hy
  have htl : ((mergeE cmp a b).take j).length ≤ 1000 := by have := mergeE_len cmp a b; rw [List.length_take]; omega
  have hlj : (stJ cmp a b S ida idb (j + 1)).length = S.length := zD6
  refine qR rfl <| qO rfl <| zV5 rfl zm137 <| qO rfl <| zS2 rfl rfl rfl sz137 rfl (by cases o <;> rfl) (zA rfl) ?_
  refine qN ?_
  refine ⟨rfl, [_], rfl, ?_⟩
  rw [zC0 ([] ++ _)]
  show mwp _ _ _ _ _ _ _ ((stJ cmp a b S ida idb (j + 1) ++ _) ++ _)
  refine mwp_abs fun R hR => ?_
  refine zB0 <| qR rfl <| qO rfl <| zT rfl rfl (get_o0 hlj) ta134 rfl <| qO rfl <| zT rfl rfl (by rw [hR]; exact get_rt) ta137 rfl ?_
  refine qO rfl <| zC1 rfl zK0 el137 rfl rfl (by decide) (by decide) rfl (by cases o <;> rfl) ?_
  refine qO rfl <| op_append rfl zK0 el137 rfl rfl (get_o1 hlj) (by simp) (by simp only [zC, zY, List.length_nil]; omega) (by simp only [zC, zY, List.length_nil]; omega) ?_
  refine qO rfl <| op_store rfl rfl rfl (get_o0' hlj) sz134 rfl rfl (zA rfl) <| qN ?_
  exact .inl ⟨rfl, rfl, [_], (set_o01 hlj).trans (by rw [hR, List.take_add_one (l := mergeE cmp a b), hp, Option.toList_some, List.map_append, len_snoc]; exact (zC0 _ _ _).symm)⟩
 ·
  intro _
  rw [zC]
  refine zB <| qR rfl <| qO rfl <| zT rfl rfl (get_o0 zD6) ta134 rfl <| qA rfl rfl rfl <| qN <| zK ?_
  show BodyQ _ _ _ _ _ _ ((stJ cmp a b S ida idb (mergeE cmp a b).length ++ _) ++ _)
  rw [zC0]
  exact ret_tmpS (.inr rfl) Tryz.results137 rfl (Sub.trans (.view _ _ _) (.of_eq (by rw [List.take_length]))) (cl_lst (cl_entC _) (encE_one _)) (by simp [zD6]) (stJ_ClS hcl0) ⟨rfl, rfl⟩
 ·
  intro j y hy hp
  cases hp
theorem collect_spec (a b : List (REnt (List Tk))) (hab : a.length + b.length ≤ 1000) (kc : FuncId) (cmp : List Tk → List Tk → Int) (hcc : CallOk Tryz.prog kc) (hcmp : ∀ (k1 k2 : List Tk) (S : MS), MCalls Tryz.prog kc ([] ++ [encC k1, encC k2] ++ []) S fun v σ' => v = .int .i64 (cmp k1 k2) ∧ σ' = S) (ida idb idc : Nat) (hne : ida ≠ idb) (hnc : ida ≠ idc) (hnd : idb ≠ idc) (S : MS) (hA : S[ida]? = some (.cells [.lst none 3 (a.map (encR encC))])) (hB : S[idb]? = some (.cells [.lst none 3 (b.map (encR encC))])) (hC : S[idc]? = some (.cells [.fn (.func kc) [] []])) : MCalls Tryz.prog 99 [.fn (.func 138) [] [.ref ida 0, .ref idb 0, .ref idc 0]] S fun v σ' => v = .lst none 3 ((mergeE cmp a b).map (encE encC)) ∧ σ' = stJ cmp a b S ida idb (mergeE cmp a b).length := by
 refine zU Tryz.func99 rfl Tryz.ntmps99 (zA rfl) ?_
 refine zY1 fun _ hcl0 => ?_
 rw [List.append_nil]
 rw [List.append_nil] at hcl0
 refine zB <| qR rfl <| qA rfl rfl rfl <| qN <| zB <| qR rfl <| qM rfl rfl rfl ?_
 refine qX rfl rfl rfl rfl co137 (appendSeq_spec a b hab kc cmp hcc hcmp ida idb idc hne hnc hnd S hA hB hC) ?_
 refine qA rfl rfl rfl <| qN <| zK ?_
 exact ret_tmpT (.inr rfl) Tryz.results99 rfl (.refl _) (cl_lst (cl_entC _) (encE_one _)) (by simp [zD6]) (stJ_ClS (by rw [List.append_nil]; exact hcl0)) ⟨rfl, rfl⟩
end Go.Proofs.YtnfcnpdpfgcchaaGreatDoor
namespace Go.MV
open Go Go.RowKit
section
section
variable {P : Program} {rd : Option Nat} {o : Oper} {env : Env} {σ : MS} {K : MV → MS → Prop}
theorem op_ext {f : Operand} {args : Array Operand} {ts : Array TypeId} {k : FuncId} {xs : List MV} {vz : Value} {mz : MV} (ho : o.op = .call { callee := .value f, args := args, argTypes := ts }) (hf : evo env f = some (.fn (.func k) [] [])) (hx : evos env args.toList = some xs)
    (hrun : ∀ (g : Gh) (w : World) (vs : List Value), Rds g w xs vs → (callFunc k vs.toArray).run P w = .ok (.value vz) w) (hz : constMV vz = some mz) (h : K mz σ) : OpWp P rd o env σ K := by
  refine OpWp.of_run (by simp [ho]) fun g w a hr hop => ?_
  obtain ⟨us, vs, e, k1, k2⟩ := (hop f (by simp [ho, Op.operands, Call.operands]) _ hf).inv_fn
  have k3 : Rds g w xs (args.toList.map a.eval) := evos_rds (fun x hx m hm => hop x (by simp [ho, Op.operands, Call.operands]; exact .inr (by simpa using hx)) m hm) hx
  have e1 : us = [] := List.eq_nil_of_length_eq_zero k1.1
  have e2 : vs = [] := List.eq_nil_of_length_eq_zero k2.1
  subst e1 e2
  refine ⟨vz, w, ?_, .same h hr (zK6 _ _ hz)⟩
  have := hrun g w _ k3
  rw [← Array.toList_map, Array.toArray_toList] at this
  simp [execOp, ho, resolve, e, Deferred.ofValue, invoke, this]
theorem op_max3 {ts : Array TypeId} {x y z : Operand} {k : IntKind} {l m n r : Int} (ho : o.op = .call { callee := .builtin .max, args := #[x, y, z], argTypes := ts }) (hx : evo env x = some (.int k l)) (hy : evo env y = some (.int k m)) (hz : evo env z = some (.int k n)) (e : max (max l m) n = r) (h : K (.int k r) σ) : OpWp P rd o env σ K := by
  refine OpWp.of_run (by simp [ho]) fun g w a hr hop => ?_
  have e1 := (hop x (by simp [ho, Op.operands, Call.operands]) _ hx).inv_int
  have e2 := (hop y (by simp [ho, Op.operands, Call.operands]) _ hy).inv_int
  have e3 := (hop z (by simp [ho, Op.operands, Call.operands]) _ hz).inv_int
  have hm : ∀ a b : Int, (if b > a then b else a) = max a b := fun a b => by split <;> omega
  refine ⟨.int k r, w, ?_, .same h hr (.int _ _)⟩
  simp [execOp, ho, resolve, invoke, builtin, Builtin.max_, Builtin.max2, e1, e2, e3, hm, e]
end
abbrev cmpX (a b : Bs) : Int := Go.Lib.compareBytes a b
theorem cmpX_eq : ∀ a b : Bs, cmpX a b = if Op.bytesLess a b then -1 else if Op.bytesLess b a then 1 else 0
  | [], [] => rfl
  | [], _ :: _ => rfl
  | _ :: _, [] => rfl
  | x :: a, y :: b => by
    have ih := cmpX_eq a b
    have h1 : ∀ x y : UInt8, x < y → ¬ y < x := fun x y h h2 => absurd (UInt8.lt_trans h h2) (UInt8.lt_irrefl _)
    unfold cmpX at ih ⊢
    simp only [Go.Lib.compareBytes, Op.bytesLess]
    by_cases hxy : x < y
    · simp [hxy]
    · by_cases hyx : y < x
      · have hne : ¬ x = y := fun e => by subst e; exact UInt8.lt_irrefl _ hyx
        simp [hxy, hyx, hne]
      · have e : x = y := UInt8.le_antisymm (UInt8.not_lt.1 hyx) (UInt8.not_lt.1 hxy)
        subst e
        simp [hxy, ih]
theorem run_cmpstr {P : Program} {k : FuncId} {fn : Func} (hf : P.funcs[k]? = some fn) (hname : (fn.name == "runtime.NumGoroutine") = false) (hb : fn.body.isNone = true) (hn : Extern.findNext fn = none) (he : Extern.find fn = some Extern.BytealgCompare.compare) (a b : Bs) (g : Gh) (w : World) (vs : List Value) (h : Rds g w [.str (bs a), .str (bs b)] vs) :
    (callFunc k vs.toArray).run P w = .ok (.value (.int .i64 (cmpX a b))) w := by
  obtain ⟨u, us, rfl, h1, h2⟩ := h.uncons
  obtain ⟨u2, us2, rfl, h3, h4⟩ := h2.uncons
  have e1 := h1.inv_str
  have e2 := h3.inv_str
  have e3 : us2 = [] := List.eq_nil_of_length_eq_zero h4.1
  subst e1 e2 e3
  rw [run_callFunc_extern hf hname hb hn he, Go.Lib.run_compareString]
  rfl
end
end Go.MV
