/-
  Texts on which the proof of TableKeys leans: part 3.
-/
import Derived.Test.YtciimaabeabkdaaGreatDoorTableKeysB
import Derived.Maps.RangeRun
import Derived.MapKept
set_option linter.unusedVariables false
set_option linter.unusedSimpArgs false
set_option maxRecDepth 20000
set_option maxHeartbeats 8000000
namespace Go.Proofs.YtciimaabeabkdaaGreatDoor
open Go Go.MV
theorem not_dec {p : Prop} [Decidable p] (h : (!decide p) = false) : p := by simpa using h
theorem two_of {ins : List Sch} (h : partsF 5 = (ins.length : Int)) : ∃ x y, ins = [x, y] := by
 have h2 : ins.length = 2 := by
  have : partsF 5 = 2 := by decide
  omega
 match ins, h2 with
 | [x, y], _ => exact ⟨x, y, rfl⟩
theorem _root_.zE0 : type_of% @Tryz.underlying23 := @Tryz.underlying23
theorem xEqual_spec (a b : List Bs) (S : MS) : MCalls Tryz.prog 133 [.lst none 1 (a.map encX), .lst none 1 (b.map encX)] S fun v σ' => v = .bool (decide (a = b)) ∧ σ' = S := by
 refine zR Tryz.func133 V Tryz.ntmps133 (zA V) ?_
 refine zZ3 (t := 0) V fun hlen => ?_
 rw [zF] at hlen
 refine zB <| qR V <| qA V V V <| qN <| zB <| zB <| qR V <| qM V V V <| qE V V zE0 V <| qM V V V <| qE V V zE0 V <| qC V V V V V <| qN ?_
 refine zM V (fun h10 => ?_) (fun h10 => ?_)
 ·
  refine zB <| qR V <| qA V V V <| qN <| zH ?_
  exact zT (.inr V) Tryz.results133 V (.of_eq (by congr 1; symm; rw [decide_eq_false_iff_not]; intro e; subst e; simp at h10)) (.bool _) Vv
 ·
  have hab : a.length = b.length := by simp at h10; omega
  refine zX <| zB <| zB <| qR V <| qM V V V <| qE V V zE0 V <| qM V V V <| qN <| zB0 ?_
  refine zK2 (α := Nat) [(0, _), (1, _), (12, _)] (fun i => [(13, .int .i64 (i : Int))]) (fun i => []) (fun i => i ≤ a.length ∧ a.take i = b.take i) (fun i => a.length - i) (0) (.keep V (.keep V (.keep V (.nil)))) (.keep V (.nil)) (⟨by omega, rfl⟩) (V) ?_
  rintro i ⟨hi, heq⟩
  refine zB <| qR V <| qC V V V V V <| qN <| zB ?_
  refine zM V (fun h14 => ?_) (fun h14 => ?_)
  ·
   have hlt : i < a.length := by simpa using h14
   obtain ⟨x, hs⟩ : ∃ q_, a[i]? = some q_ := ⟨_, zC hlt⟩
   obtain ⟨y, hs2⟩ : ∃ s, b[i]? = some s := ⟨_, zC (by omega)⟩
   refine zX <| zB <| zB0 <| zB <| qR V <| qM V V V <| qA V V V <| qN <| zB ?_
   refine zW0 [] [_] mo (by decide) V V V V ?_
   refine dO V V V (zY V V Vv) <| dO V V V (zY V V Vv) <| dO V V V (zI V zE0 sz9 (by decide) V V V (zM1 hs) Vv) ?_
   refine dO V V V (zL V V ta9 V Vv) <| dO V V V (zY V V Vv) <| dO V V V (zY V V Vv) <| dO V V V (zI V zE0 sz9 (by decide) V V V (zM1 hs2) Vv) ?_
   refine dO V V V (zL V V ta9 V Vv) <| dO V V V (zB3 V V V V Vv) <| zQ0 ?_
   refine zM V (fun h24 => ?_) (fun h24 => ?_)
   ·
    refine zB <| qR V <| qA V V V <| qN <| zH ?_
    exact zT (.inr V) Tryz.results133 V (.of_eq (by congr 1; symm; rw [decide_eq_false_iff_not]; intro e; subst e; rw [hs2] at hs; injection hs with hs; subst hs; simp at h24)) (.bool _) Vv
   ·
    refine zX <| qR V <| qO V <| zH1 V V V V <| qM V V V <| qN ?_
    refine ⟨i + 1, by omega, ⟨by omega, ?_⟩, rfl, (.keep V (.keep V (.keep V (.nil)))), (.eq V (zH2 hlt hlen) (.nil))⟩
    rw [List.take_add_one, List.take_add_one, hs, hs2, heq]
    simp at h24
    rw [h24]
  ·
   have hge : i = a.length := by simp at h14; omega
   refine zV1 <| zB <| qR V <| qA V V V <| qN <| zH ?_
   exact zT (.inr V) Tryz.results133 V (.of_eq (by congr 1; symm; rw [decide_eq_true_iff]; rw [hge, List.take_length, hab, List.take_length] at heq; exact heq)) (.bool _) Vv
theorem _root_.zD0 : type_of% @Tryz.underlying24 := @Tryz.underlying24
theorem cEqualF_spec (a b : List (List Tk)) (S : MS) : MCalls Tryz.prog 175 [.lst none 1 (a.map encC), .lst none 1 (b.map encC), .fn (.func 135) [] []] S fun v σ' => v = .bool (decide (a = b)) ∧ σ' = S := by
 refine zR Tryz.func175 V Tryz.ntmps175 (zA V) ?_
 refine zZ3 (t := 0) V fun hlen => ?_
 rw [zF] at hlen
 refine zB <| qR V <| qA V V V <| qN <| zB <| zB <| qR V <| qM V V V <| qE V V zD0 V <| qM V V V <| qE V V zD0 V <| qC V V V V V <| qN ?_
 refine zM V (fun h14 => ?_) (fun h14 => ?_)
 ·
  refine zB <| qR V <| qA V V V <| qN <| zH ?_
  exact zT (.inr V) Tryz.results175 V (.of_eq (by congr 1; symm; rw [decide_eq_false_iff_not]; intro e; subst e; simp at h14)) (.bool _) Vv
 ·
  have hab : a.length = b.length := by simp at h14; omega
  refine zX <| zB <| zB <| qR V <| qM V V V <| qE V V zD0 V <| qM V V V <| qN <| zB0 ?_
  refine zK2 (α := Nat) [(1, _), (2, _), (15, _), (16, _)] (fun i => [(17, .int .i64 (i : Int))]) (fun i => []) (fun i => i ≤ a.length ∧ a.take i = b.take i) (fun i => a.length - i) (0) (.keep V (.keep V (.keep V (.keep V (.nil))))) (.keep V (.nil)) (⟨by omega, rfl⟩) (V) ?_
  rintro i ⟨hi, heq⟩
  refine zB <| qR V <| qC V V V V V <| qN <| zB ?_
  refine zM V (fun h18 => ?_) (fun h18 => ?_)
  ·
   have hlt : i < a.length := by simpa using h18
   obtain ⟨x, hs⟩ : ∃ q_, a[i]? = some q_ := ⟨_, zC hlt⟩
   obtain ⟨y, hs2⟩ : ∃ s, b[i]? = some s := ⟨_, zC (by omega)⟩
   refine zX <| zB <| zB0 <| zB <| qR V <| qM V V V <| qO V <| zI V zD0 sz202 (by decide) V V V (zM1 hs) ?_
   refine qO V <| zL V V ta202 V <| qA V V V <| qA V V V <| qN <| zB <| qR V <| qM V V V <| qM V V V <| qO V <| zI V zD0 sz202 (by decide) V V V (zM1 hs2) ?_
   refine qO V <| zL V V ta202 V <| qA V V V <| qN <| zB <| qR V <| qM V V V <| qM V V V <| qM V V V ?_
   refine qX V V V V co135 (clkSame_spec x y _) ?_
   refine qO V <| zF1 V V <| qN ?_
   refine zM V (fun h30 => ?_) (fun h30 => ?_)
   ·
    refine zB <| qR V <| qA V V V <| qN <| zH ?_
    exact zT (.inr V) Tryz.results175 V (.of_eq (by congr 1; symm; rw [decide_eq_false_iff_not]; intro e; subst e; rw [hs2] at hs; injection hs with hs; rw [hs] at h30; simp at h30)) (.bool _) Vv
   ·
    refine zX <| qR V <| qO V <| zH1 V V V V <| qM V V V <| qN ?_
    refine ⟨i + 1, by omega, ⟨by omega, ?_⟩, rfl, (.keep V (.keep V (.keep V (.keep V (.nil))))), (.eq V (zH2 hlt hlen) (.nil))⟩
    rw [List.take_add_one, List.take_add_one, hs, hs2, heq, not_dec h30]
  ·
   have hge : i = a.length := by simp at h18; omega
   refine zV1 <| zB <| qR V <| qA V V V <| qN <| zH ?_
   exact zT (.inr V) Tryz.results175 V (.of_eq (by congr 1; symm; rw [decide_eq_true_iff]; rw [hge, List.take_length, hab, List.take_length] at heq; exact heq)) (.bool _) Vv
theorem cSame_spec (a b : List (List Tk)) (S : MS) : MCalls Tryz.prog 134 [.lst none 1 (a.map encC), .lst none 1 (b.map encC), .fn (.func 135) [] []] S fun v σ' => v = .bool (decide (a = b)) ∧ σ' = S := by
 refine zR Tryz.func134 V Tryz.ntmps134 (zA V) ?_
 refine zB <| qR V <| qA V V V <| qN <| zB <| qR V <| qM V V V <| qM V V V <| qM V V V ?_
 refine qX V V V V co175 (cEqualF_spec a b _) ?_
 refine qA V V V <| qN <| zH ?_
 exact zT (.inr V) Tryz.results134 V (.of_eq (V)) (.bool _) Vv
theorem _root_.zG0 : type_of% @Tryz.underlying25 := @Tryz.underlying25
theorem vEqualF_spec (a b : List Val) (ih : ∀ x ∈ a, ∀ (y : Val) (S : MS), MCalls Tryz.prog 68 [encV x, encV y] S fun v σ' => v = .bool (decide (x = y)) ∧ σ' = S) (S : MS) : MCalls Tryz.prog 177 [.lst none 5 (encVs a), .lst none 5 (encVs b), .fn (.func 68) [] []] S fun v σ' => v = .bool (decide (a = b)) ∧ σ' = S := by
 refine zR Tryz.func177 V Tryz.ntmps177 (zA V) ?_
 refine zZ3 (t := 0) V fun hlen => ?_
 rw [zX0] at hlen
 refine zB <| qR V <| qA V V V <| qN <| zB <| zB <| qR V <| qM V V V <| qE V V zG0 V <| qM V V V <| qE V V zG0 V <| qC V V V V V <| qN ?_
 refine zM V (fun h14 => ?_) (fun h14 => ?_)
 ·
  rw [zX0, zX0] at h14
  refine zB <| qR V <| qA V V V <| qN <| zH ?_
  exact zT (.inr V) Tryz.results177 V (.of_eq (by congr 1; symm; rw [decide_eq_false_iff_not]; intro e; subst e; simp at h14)) (.bool _) Vv
 ·
  rw [zX0, zX0] at h14
  have hab : a.length = b.length := by simp at h14; omega
  refine zX <| zB <| zB <| qR V <| qM V V V <| qE V V zG0 V <| qM V V V <| qN <| zB0 ?_
  refine zO4 (α := Nat) [(1, _), (2, _), (15, _), (16, _)] (fun i => [(17, .int .i64 (i : Int))]) (fun i => []) (fun i => i ≤ a.length ∧ a.take i = b.take i) (fun i => a.length - i) (0) (Nat.le_refl _) (.keep V (.keep V (.keep V (.keep V (.nil))))) (.keep V (.nil)) (⟨by omega, rfl⟩) (V) ?_
  rintro i ⟨hi, heq⟩
  refine zB <| qR V <| qC V V V V V <| qN <| zB ?_
  refine zM V (fun h18 => ?_) (fun h18 => ?_)
  ·
   rw [zX0] at h18
   have hlt : i < a.length := by simpa using h18
   obtain ⟨⟨n1, m1, s1, c1, w1⟩, hs⟩ : ∃ s, a[i]? = some s := ⟨_, zC hlt⟩
   obtain ⟨⟨n2, m2, s2, c2, w2⟩, hs2⟩ : ∃ s, b[i]? = some s := ⟨_, zC (by omega)⟩
   refine zX <| zB <| zB0 <| zB <| qR V <| qM V V V <| qO V <| zI V zG0 sz27 (by decide) V V V (zC4 hs) ?_
   refine qO V <| zL V V ta27 V <| qO V <| zM0 V zm27 V V <| qA V V V <| qO V <| zZ V V V V sz27 V V (zA V) V <| qN <| zB <| qR V <| qM V V V <| qM V V V <| qO V <| zI V zG0 sz27 (by decide) V V V (zC4 hs2) ?_
   refine qO V <| zL V V ta27 V <| qO V <| zM0 V zm27 V V <| qO V <| zZ V V V V sz27 V V (zA V) V <| qN <| zB <| qR V <| qM V V V <| qL V V V V ta27 V <| qL V V V V ta27 V ?_
   refine qX V V V V co68 (ih _ (zW hs) (.mk n2 m2 s2 c2 w2) _) ?_
   refine qO V <| zF1 V V <| qN ?_
   refine zM V (fun h30 => ?_) (fun h30 => ?_)
   ·
    refine zB <| qR V <| qA V V V <| qN <| zH ?_
    exact zT (.inr V) Tryz.results177 V (.of_eq (by congr 1; symm; rw [decide_eq_false_iff_not]; intro e; subst e; rw [hs2] at hs; injection hs with hs; rw [hs] at h30; simp at h30)) (.bool _) Vv
   ·
    refine zX <| qR V <| qO V <| zH1 V V V V <| qM V V V <| qN ?_
    refine ⟨i + 1, _, by omega, ⟨by omega, ?_⟩, rfl, .nil, (.old V V (.old V V (.old V V (.old V V (.nil))))), (.new' V (zH2 hlt hlen) (.int _ _) (.nil))⟩
    rw [List.take_add_one, List.take_add_one, hs, hs2, heq, not_dec h30]
  ·
   rw [zX0] at h18
   have hge : i = a.length := by simp at h18; omega
   refine zV1 <| zB <| qR V <| qA V V V <| qN <| zH ?_
   exact zT (.inr V) Tryz.results177 V (.of_eq (by congr 1; symm; rw [decide_eq_true_iff]; rw [hge, List.take_length, hab, List.take_length] at heq; exact heq)) (.bool _) Vv
theorem vsSame_spec (a b : List Val) (ih : ∀ x ∈ a, ∀ (y : Val) (S : MS), MCalls Tryz.prog 68 [encV x, encV y] S fun v σ' => v = .bool (decide (x = y)) ∧ σ' = S) (S : MS) : MCalls Tryz.prog 136 [.lst none 5 (encVs a), .lst none 5 (encVs b), .fn (.func 68) [] []] S fun v σ' => v = .bool (decide (a = b)) ∧ σ' = S := by
 refine zR Tryz.func136 V Tryz.ntmps136 (zA V) ?_
 refine zB <| qR V <| qA V V V <| qN <| zB <| qR V <| qM V V V <| qM V V V <| qM V V V ?_
 refine qX V V V V co177 (vEqualF_spec a b ih _) ?_
 refine qA V V V <| qN <| zH ?_
 exact zT (.inr V) Tryz.results136 V (.of_eq (V)) (.bool _) Vv
theorem vSame_spec (d : Nat) : ∀ (a b : Val), vdepth a ≤ d → ∀ S : MS, MCalls Tryz.prog 68 [encV a, encV b] S fun v σ' => v = .bool (decide (a = b)) ∧ σ' = S := by
 induction d with
 | zero => rintro ⟨n, m, s, c, w⟩ b h; simp [vdepth] at h
 | succ d ih =>
 rintro ⟨n, m, s, c, w⟩ ⟨n2, m2, s2, c2, w2⟩ hd S
 have hmem : ∀ x ∈ w, vdepth x ≤ d := fun x hx => by have := vdepth_mem hx; rw [vdepth] at hd; omega
 refine zR Tryz.func68 V Tryz.ntmps68 (zA V) ?_
 refine zB <| qR V <| qB V V V V V <| qB V V V V V <| qA V V V <| qN <| zB <| qR V <| qF V V V zX3 <| qL V V V V ta22 V <| qF V V V zX3 <| qL V V V V ta22 V <| qC V V V V V <| qM V V V ?_
 refine zH0 (fun h10 => ?_) (fun h10 => ?_)
 ·
  refine qF V V V fo27_1 <| qL V V V V ta22 V <| qF V V V fo27_1 <| qL V V V V ta22 V <| qC V V V V V <| qP V V V V <| qM V V V ?_
  refine zH0 (fun h17 => ?_) (fun h17 => ?_)
  ·
   refine qF V V V zZ2 <| qL V V V V ta23 V <| qF V V V zZ2 <| qL V V V V ta23 V ?_
   refine qX V V V V co133 (xEqual_spec s s2 _) ?_
   refine qP V V V V <| qM V V V ?_
   refine zH0 (fun h24 => ?_) (fun h24 => ?_)
   ·
    refine qF V V V zO2 <| qL V V V V ta24 V <| qF V V V zO2 <| qL V V V V ta24 V ?_
    refine qX V V V V co134 (cSame_spec c c2 _) ?_
    refine qP V V V V <| qM V V V ?_
    refine zH0 (fun h31 => ?_) (fun h31 => ?_)
    ·
     refine qF V V V zG2 <| qL V V V V ta25 V <| qF V V V zG2 <| qL V V V V ta25 V ?_
     refine qX V V V V co136 (vsSame_spec w w2 (fun x hx y S => ih x y (hmem x hx) S) _) ?_
     refine qP V V V V <| qA V V V <| qN <| zH ?_
     exact zT (.inr V) Tryz.results68 V (.of_eq (by congr 1; rw [zP]; simp_all)) (.bool _) Vv
    ·
     refine qT V V V V <| qS V <| qP V V V V <| qA V V V <| qN <| zH ?_
     exact zT (.inr V) Tryz.results68 V (.of_eq (by congr 1; rw [zP]; simp_all)) (.bool _) Vv
   ·
    refine qT V V V V <| qS V <| qP V V V V <| qM V V V <| qT V V V V <| qS V <| qP V V V V <| qA V V V <| qN <| zH ?_
    exact zT (.inr V) Tryz.results68 V (.of_eq (by congr 1; rw [zP]; simp_all)) (.bool _) Vv
  ·
   refine qT V V V V <| qS V <| qP V V V V <| qM V V V <| qT V V V V <| qS V <| qP V V V V <| qM V V V <| qT V V V V <| qS V <| qP V V V V <| qA V V V <| qN <| zH ?_
   exact zT (.inr V) Tryz.results68 V (.of_eq (by congr 1; rw [zP]; simp_all)) (.bool _) Vv
 ·
  refine qT V V V V <| qS V <| qP V V V V <| qM V V V <| qT V V V V <| qS V <| qP V V V V <| qM V V V <| qT V V V V <| qS V <| qP V V V V <| qM V V V <| qS V <| qS V <| qS V ?_
  refine qS V <| qS V <| qP V V V V <| qA V V V <| qN <| zH ?_
  exact zT (.inr V) Tryz.results68 V (.of_eq (by congr 1; rw [zP]; simp_all)) (.bool _) Vv
theorem valSame_spec (a b : Val) (S : MS) : MCalls Tryz.prog 68 [encV a, encV b] S fun v σ' => v = .bool (decide (a = b)) ∧ σ' = S := vSame_spec _ a b (Nat.le_refl _) S
theorem bottom_spec (d : Nat) : ∀ (s : Sch), isF d s = true → ∀ S : MS, MCalls Tryz.prog 144 [encS s] S fun v σ' => v = encV (bottomF s) ∧ σ' = S := by
 induction d with
 | zero => intro s h; simp [isF] at h
 | succ d ih =>
 rintro ⟨k, ins⟩ hd S
 rw [isF] at hd
 simp only [Bool.and_eq_true, List.all_eq_true, beq_iff_eq] at hd
 refine zR Tryz.func144 V Tryz.ntmps144 (zA V) ?_
 refine zB <| qR V <| qB V V V V V <| qO V <| zM0 V zm27 V V <| qN <| zB <| qR V <| qO V <| zM0 V zm27 V V <| qN <| zB <| zB <| qR V <| qF V V V zB2 <| qL V V V V ta3 V <| qC V V V V V <| qN ?_
 refine zM V (fun h6 => ?_) (fun h6 => ?_)
 ·
  have hk : k = 5 := by simpa using h6
  subst hk
  obtain ⟨⟨k1, i1⟩, ⟨k2, i2⟩, rfl⟩ := two_of hd.1
  obtain ⟨⟨n1, m1, s1, c1, w1⟩, e1⟩ : ∃ v, bottomF (.mk k1 i1) = v := ⟨_, rfl⟩
  obtain ⟨⟨n2, m2, s2, c2, w2⟩, e2⟩ : ∃ v, bottomF (.mk k2 i2) = v := ⟨_, rfl⟩
  have ih1 := ih (.mk k1 i1) (hd.2 _ (by simp))
  have ih2 := ih (.mk k2 i2) (hd.2 _ (by simp))
  simp only [e1] at ih1
  simp only [e2] at ih2
  have hbot : bottomF (.mk 5 [.mk k1 i1, .mk k2 i2]) = .mk 0 0 [] [] [.mk n1 m1 s1 c1 w1, .mk n2 m2 s2 c2 w2] := by rw [bottomF, if_pos rfl, bottomL, bottomL, bottomL, e1, e2]
  refine zW0 [12] [_, S ++ [.cells (encS (.mk 5 [.mk k1 i1, .mk k2 i2])).cells, .cells [.int .u64 0, .int .u64 0, .lst0, .lst0, .lst0], .cells [.int .u64 0, .int .u64 0, .lst0, .lst0, .lst none 5 [encV (.mk n1 m1 s1 c1 w1), encV (.mk n2 m2 s2 c2 w2)]]]] mo (by decide) V V V V ?_
  refine dO V V V (zG V V zG3 Vv) <| dO V V V (zN0 V V V ta51 V Vv) <| dO V V V (zI V zO0 sz53 (by decide) V V V (show _ = some (encS (.mk k1 i1)) from V) Vv) ?_
  refine dO V V V (zL V V ta53 V Vv) <| zN V V (.cons (zT0 V V V co144 (ih1 _)) .nil) <| dO V V V (zG V V zG3 Vv) <| dO V V V (zN0 V V V ta51 V Vv) <| dO V V V (zI V zO0 sz53 (by decide) V V V (show _ = some (encS (.mk k2 i2)) from V) Vv) ?_
  refine dO V V V (zL V V ta53 V Vv) <| zN V V (.cons (zT0 V V V co144 (ih2 _)) .nil) <| dO V V V (zL1 V zG0 el27 V V (by decide) (by decide) V V Vv) ?_
  refine dO V V V (zG V V zG2 Vv) <| zV0 V V V V (zZ V V V V sz25 V V (zA V) V Vv) <| zQ0 <| zB <| qR V <| qL V V V V ta27 V <| qO V <| zZ V V V V sz27 V V (zA V) V <| qN <| zH ?_
  rw [hbot]
  exact zF3 (.inr V) Tryz.results144 V V ta27 V (by first | exact (.agg (.cons (.refl _) (.cons (.refl _) (.cons (.nil _) (.cons (.nil _) (.cons (.nil _) .nil)))))) | exact (.agg (.cons (.refl _) (.cons (.refl _) (.cons (.nil _) (.cons (.nil _) (.cons (.refl _) .nil))))))) (zO1 _ _) Vv
 ·
  have hk : ¬ k = 5 := by simpa using h6
  have hbot : bottomF (.mk k ins) = noV := by simp [bottomF, hk]
  refine zX <| zB <| qR V <| qL V V V V ta27 V <| qO V <| zZ V V V V sz27 V V (zA V) V <| qN <| zH ?_
  rw [hbot]
  exact zF3 (.inr V) Tryz.results144 V V ta27 V (by first | exact (.agg (.cons (.refl _) (.cons (.refl _) (.cons (.nil _) (.cons (.nil _) (.cons (.nil _) .nil)))))) | exact (.agg (.cons (.refl _) (.cons (.refl _) (.cons (.nil _) (.cons (.nil _) (.cons (.refl _) .nil))))))) (zO1 _ _) Vv
theorem _root_.zN1 : type_of% @Tryz.underlying27 := @Tryz.underlying27
theorem Bottom_spec (s : Sch) (S : MS) : MCalls Tryz.prog 84 [encS s] S fun v σ' => v = encV (BottomF s) ∧ σ' = S := by
 obtain ⟨k, ins⟩ := s
 refine zR Tryz.func84 V Tryz.ntmps84 (zA V) ?_
 refine zB <| qR V <| qB V V V V V <| qO V <| zM0 V zm27 V V <| qN <| zB <| zB <| qR V <| qL V V V V ta53 V ?_
 refine qX V V V V co140 (Is_spec (.mk k ins) _) ?_
 refine qO V <| zF1 V V <| qN ?_
 refine zM V (fun h5 => ?_) (fun h5 => ?_)
 ·
  have hb : BottomF (.mk k ins) = noV := by unfold BottomF; rw [if_neg (by simpa using h5)]
  refine zB <| qR V <| qO V <| zR1 V zN1 zm27 .nil (by kernel_rfl) ?_
  refine qO V <| zZ V V V V sz27 V V (zA V) V <| qN <| zH ?_
  rw [hb]
  exact zF3 (y := encV (noV)) (.inr V) Tryz.results84 V V ta27 V (.agg (.cons (.refl _) (.cons (.refl _) (.cons (.nil _) (.cons (.nil _) (.cons (.nil _) .nil)))))) (zO1 _ _) Vv
 ·
  have his : isF 16 (.mk k ins) = true := by simpa using h5
  obtain ⟨⟨n1, m1, s1, c1, w1⟩, e1⟩ : ∃ v, bottomF (.mk k ins) = v := ⟨_, rfl⟩
  have bs := bottom_spec 16 (.mk k ins) his
  simp only [e1] at bs
  have hb : BottomF (.mk k ins) = .mk n1 m1 s1 c1 w1 := by unfold BottomF; rw [if_pos his, e1]
  refine zX <| zB <| qR V <| qL V V V V ta53 V ?_
  refine qX V V V V co144 (bs _) ?_
  refine qO V <| zZ V V V V sz27 V V (zA V) V <| qN <| zH ?_
  rw [hb]
  exact zF3 (y := encV (.mk n1 m1 s1 c1 w1)) (.inr V) Tryz.results84 V V ta27 V (.refl _) (zO1 _ _) Vv
theorem None_spec (s : Sch) (x : Val) (S : MS) : MCalls Tryz.prog 119 [encS s, encV x] S fun v σ' => v = .bool (noneF s x) ∧ σ' = S := by
 obtain ⟨k, ins⟩ := s
 obtain ⟨n, m, s, c, w⟩ := x
 refine zR Tryz.func119 V Tryz.ntmps119 (zA V) ?_
 refine zB <| qR V <| qB V V V V V <| qB V V V V V <| qA V V V <| qN <| zB ?_
 refine zW0 [] [_] mo (by decide) V V V V ?_
 refine dO V V V (zN0 V V V ta53 V Vv) <| zN V V (.cons (zT0 V V V co84 (Bottom_spec (.mk k ins) _)) .nil) <| dO V V V (zN0 V V V ta27 V Vv) <| zN V V (.cons (zT0 V V V co68 (valSame_spec (BottomF (.mk k ins)) (.mk n m s c w) _)) .nil) <| dO V V V (zZ0 V V Vv) <| zQ0 <| zH ?_
 exact zT (.inr V) Tryz.results119 V (.of_eq (V)) (.bool _) Vv
def pairsY (l : List Bs) : List (List MV) := (List.range (l.length - 1)).map fun i => [encX (l.getD i []), encX (l.getD (i + 1) [])]
theorem pairsY_len (l : List Bs) : (pairsY l).length = l.length - 1 := by simp [pairsY]
theorem pairsY_get {l : List Bs} {i : Nat} {a b : Bs} (ha : l[i]? = some a) (hb : l[i + 1]? = some b) : (pairsY l)[i]? = some [encX a, encX b] := by
 have h1 := (zD.1 hb).1
 unfold pairsY
 rw [zI0, List.getElem?_range (by omega)]
 simp [ha, hb]
theorem rises_iff : ∀ l : List Bs, risesF l = true ↔ ∀ i, i + 1 < l.length → Op.bytesLess (l.getD i []) (l.getD (i + 1) []) = true
 | [] => by simp [risesF]
 | [a] => by simp [risesF]
 | a :: b :: l => by
  rw [risesF, Bool.and_eq_true, rises_iff (b :: l)]
  constructor
  ·rintro ⟨h1, h2⟩ i hi
   cases i with
   | zero => simpa using h1
   | succ i => simpa using h2 i (by simpa using hi)
  ·intro h
   exact ⟨by simpa using h 0 (by simp), fun i hi => by simpa using h (i + 1) (by simpa using hi)⟩
def twoY (l : List (List Tk)) : List (List Tk × List Tk) := match l with
 | [] => []
 | a :: l => l.map (fun b => (a, b)) ++ twoY l
def encP (p : List Tk × List Tk) : List MV := [encC p.1, encC p.2]
theorem two_iff : ∀ l : List (List Tk), pairsF l = true ↔ ∀ p ∈ twoY l, pairF p.1 p.2 = true
 | [] => by simp [pairsF, twoY]
 | a :: l => by
  rw [pairsF, twoY, Bool.and_eq_true, two_iff l, List.all_eq_true]
  simp only [zQ2, List.mem_map]
  constructor
  ·rintro ⟨h1, h2⟩ p (⟨b, hb, rfl⟩ | hp)
   ·exact h1 b hb
   ·exact h2 p hp
  ·intro h
   exact ⟨fun b hb => h (a, b) (.inl ⟨b, hb, rfl⟩), fun p hp => h p (.inr hp)⟩
theorem drop_cons_get {α : Type} {l r : List α} {a : α} {j : Nat} (h : a :: r = l.drop j) : l[j]? = some a ∧ r = l.drop (j + 1) := by
 have h1 := congrArg (fun q => q[0]?) h
 have h2 := congrArg (List.drop 1) h
 simp only [List.getElem?_cons_zero, List.getElem?_drop, Nat.add_zero] at h1
 refine ⟨h1.symm, ?_⟩
 simpa [List.drop_drop] using h2
theorem _root_.zQ1 : type_of% @drop_cons_get := @drop_cons_get
theorem drop_nil_len {α : Type} {l : List α} {j : Nat} (h : [] = l.drop j) : l.length ≤ j := by
 have := congrArg List.length h
 simp at this
 omega
theorem drop_at {α : Type} {l : List α} {i : Nat} {a : α} (h : l[i]? = some a) : l.drop i = a :: l.drop (i + 1) := by
 obtain ⟨hlt, e⟩ := zD.1 h
 rw [List.drop_eq_getElem_cons hlt, e]
theorem two_mem : ∀ {l : List (List Tk)} {a b : List Tk}, (a, b) ∈ twoY l → a ∈ l ∧ b ∈ l
 | [], a, b, h => by simp [twoY] at h
 | x :: l, a, b, h => by
  rw [twoY, zQ2] at h
  rcases h with h | h
  ·obtain ⟨y, hy, e⟩ := List.mem_map.1 h
   injection e with e1 e2
   subst e1 e2
   exact ⟨zZ1 .., zW1 _ hy⟩
  ·have := two_mem h
   exact ⟨zW1 _ this.1, zW1 _ this.2⟩
theorem clock_len {c : List Tk} (h : isClockF c = true) : c.length ≤ 40 := by
 unfold isClockF at h
 simp at h
 omega
def orF (l : List Int) : Int := (l.find? (· != 0)).getD 0
theorem or_two (a b : Int) : orF [a, b] = if a ≠ 0 then a else b := by
 unfold orF
 by_cases h : a = 0
 ·by_cases h2 : b = 0
  ·simp [h, h2]
  ·simp [h, h2]
 ·simp [h]
theorem or_cons (a : Int) (l : List Int) : orF (a :: l) = if a ≠ 0 then a else orF l := by
 unfold orF
 by_cases h : a = 0 <;> simp [h]
def encI (n : Int) : MV := .int .i64 n
theorem ticks_at {a b : List Tk} {i : Nat} {x y : Tk} (ha : a[i]? = some x) (hb : b[i]? = some y) : byTicksF (a.drop i) (b.drop i) = if tickC x y ≠ 0 then tickC x y else byTicksF (a.drop (i + 1)) (b.drop (i + 1)) := by
 rw [drop_at ha, drop_at hb, byTicksF]
def findGo {α : Type} (p : α → Bool) : Nat → List α → Int
 | _, [] => -1
 | i, x :: l => if p x then (i : Int) else findGo p (i + 1) l
theorem find_any {α : Type} (p : α → Bool) : ∀ (i : Nat) (l : List α), decide (0 ≤ findGo p i l) = l.any p
 | _, [] => by simp [findGo]
 | i, x :: l => by
  rw [findGo, List.any_cons]
  split
  ·rename_i h; simp [h]
  ·rename_i h; rw [find_any p (i + 1) l]; simp [h]
theorem find_at {α : Type} {p : α → Bool} {l : List α} {i : Nat} {x : α} (h : l[i]? = some x) : findGo p i (l.drop i) = if p x then (i : Int) else findGo p (i + 1) (l.drop (i + 1)) := by
 rw [drop_at h, findGo]
theorem _root_.zJ0 : type_of% @Tryz.underlying252 := @Tryz.underlying252
theorem pairs_iter (l : List Bs) (hlen : l.length ≤ maxLen) (bid l0 : Nat) : IterOk Tryz.prog 215 [] [.ref bid 0] (pairsY l) (fun σ => σ.length = l0 ∧ σ[bid]? = some (.cells [.lst none 1 (l.map encX)])) := by
 refine iterOk_of fun id T m hok hm hyt hyf => ?_
 refine zR Tryz.func215 V Tryz.ntmps215 (zA V) ?_
 rw [List.append_nil]
 show mwp _ _ _ _ _ _ _ (([] : MS) ++ T 0)
 refine zB <| qR V <| qA V V V <| qN <| zB0 ?_
 refine zK2 (α := Nat) [(0, _), (1, _)] (fun j => [(3, .int .i64 ((j + 1 : Nat) : Int))]) (fun j => T j) (fun j => j ≤ m) (fun j => m + 1 - j) (0) (.keep V (.keep V (.nil))) (.keep V (.nil)) (by omega) (V) ?_
 rintro j hj
 refine zB <| zB <| qR V <| qM V V V <| qO V <| zJ V V (hok _).2 ta252 V <| qE V V zJ0 V <| qC V V V V V <| qN ?_
 refine zM V (fun h7 => ?_) (fun h7 => ?_)
 ·
  have hlt : j + 1 < l.length := by rw [zF] at h7; simp at h7; omega
  obtain ⟨a, hs⟩ : ∃ a, l[j]? = some a := ⟨_, zC (by omega)⟩
  obtain ⟨b, hs2⟩ : ∃ a, l[j + 1]? = some a := ⟨_, zC hlt⟩
  have hy := pairsY_get hs hs2
  have hjl : j < (pairsY l).length := (zD.1 hy).1
  refine zX <| zB <| zB0 <| zB ?_
  rcases Nat.lt_or_eq_of_le hj with hjm | hjm
  ·
   refine zW0 [10] [_, T (j + 1)] mo (by decide) V V V V ?_
   refine dO V V V (zY V V Vv) <| zN V V (.cons (zJ V V (hok _).2 ta252 V Vv) (.cons (zJ V V (hok _).2 ta252 V Vv) (.nil))) <| zN V V (.cons (zY V V Vv) (.cons (zY V V Vv) (.nil))) <| zN V V (.cons (zH1 V V V (wsub (a := j + 1) (b := 1) (c := j) (by omega) (by simp only [maxLen] at hlen; omega)) Vv) (.cons (zH1 V V V (wsub (a := j + 1) (b := 1) (c := j) (by omega) (by simp only [maxLen] at hlen; omega)) Vv) (.nil))) ?_
   refine zN V V (.cons (zI V zJ0 sz9 (by decide) V V V (zM1 hs) Vv) (.cons (zI V zJ0 sz9 (by decide) V V V (zM1 hs) Vv) (.nil))) ?_
   refine dO V V V (zL V V ta9 V Vv) <| zN V V (.cons (zJ V V (hok _).2 ta252 V Vv) (.cons (zJ V V (hok _).2 ta252 V Vv) (.nil))) <| zN V V (.cons (zY V V Vv) (.cons (zY V V Vv) (.nil))) <| zN V V (.cons (zI V zJ0 sz9 (by decide) V V V (zM1 hs2) Vv) (.cons (zI V zJ0 sz9 (by decide) V V V (zM1 hs2) Vv) (.nil))) ?_
   refine dO V V V (zL V V ta9 V Vv) <| zV0 V V V V ((hyt j _ hjm hy).at0 V V V) <| dO V V V (zF1 V V Vv) <| zQ0 <| zK V (V) <| zX <| qR V <| qM V V V <| qO V <| zH1 V V V V <| qA V V V <| qN ?_
   refine ⟨j + 1, by omega, by omega, rfl, (.keep V (.keep V (.nil))), (.eq V (zH2 hlt hlen) (.nil))⟩
  ·
   refine zW0 [10] [_, T (j + 1)] mo (by decide) V V V V ?_
   refine dO V V V (zY V V Vv) <| zN V V (.cons (zJ V V (hok _).2 ta252 V Vv) (.cons (zJ V V (hok _).2 ta252 V Vv) (.nil))) <| zN V V (.cons (zY V V Vv) (.cons (zY V V Vv) (.nil))) <| zN V V (.cons (zH1 V V V (wsub (a := j + 1) (b := 1) (c := j) (by omega) (by simp only [maxLen] at hlen; omega)) Vv) (.cons (zH1 V V V (wsub (a := j + 1) (b := 1) (c := j) (by omega) (by simp only [maxLen] at hlen; omega)) Vv) (.nil))) ?_
   refine zN V V (.cons (zI V zJ0 sz9 (by decide) V V V (zM1 hs) Vv) (.cons (zI V zJ0 sz9 (by decide) V V V (zM1 hs) Vv) (.nil))) ?_
   refine dO V V V (zL V V ta9 V Vv) <| zN V V (.cons (zJ V V (hok _).2 ta252 V Vv) (.cons (zJ V V (hok _).2 ta252 V Vv) (.nil))) <| zN V V (.cons (zY V V Vv) (.cons (zY V V Vv) (.nil))) <| zN V V (.cons (zI V zJ0 sz9 (by decide) V V V (zM1 hs2) Vv) (.cons (zI V zJ0 sz9 (by decide) V V V (zM1 hs2) Vv) (.nil))) ?_
   refine dO V V V (zL V V ta9 V Vv) <| zV0 V V V V ((hyf j _ hjm hy).at0 V V V) <| dO V V V (zF1 V V Vv) <| zQ0 <| zU V (V) ?_
   refine zG1 fun hcv hcl => ?_
   refine zH ?_
   exact zV2 (S' := T (j + 1)) (by simp) Tryz.results215 (by rw [(hok _).1, (hok _).1]; exact Nat.le_refl _) hcl ⟨rfl, by rw [hjm, if_pos (by omega)]⟩
 ·
  have hge : l.length ≤ j + 1 := by rw [zF] at h7; simp at h7; omega
  have hpl := pairsY_len l
  have hjm : j = m := by omega
  refine zG1 fun hcv hcl => ?_
  refine zV1 ?_
  exact zV2 (S' := T j) (by simp) Tryz.results215 (by rw [(hok _).1, (hok _).1]; exact Nat.le_refl _) hcl ⟨rfl, by rw [hjm, if_neg (by rw [pairsY_len]; omega)]⟩
theorem pairs_spec (l : List Bs) (S : MS) : MCalls Tryz.prog 167 [.lst none 1 (l.map encX)] S fun v σ' => v = .fn (.func 215) [] [.ref S.length 0] ∧ σ' = S ++ [.cells [.lst none 1 (l.map encX)]] := by
 refine zR Tryz.func167 V Tryz.ntmps167 (zA V) ?_
 refine zB <| qR V <| qB V V V V V <| qA V V V <| qN <| zB <| qR V <| qO V <| zI2 V V V <| qA V V V <| qN ?_
 refine zG1 fun hcv hcl => ?_
 refine zH ?_
 exact ret_tmpT (.inr V) Tryz.results167 V (.refl _) (hcv 2 _ rfl) (by simp) hcl Vv
theorem rowsIs_spec (l : List Bs) (S : MS) : MCalls Tryz.prog 118 [.lst none 1 (l.map encX)] S fun v σ' => v = .bool (risesF l) ∧ σ' = S := by
 refine zR Tryz.func118 V Tryz.ntmps118 (zA V) ?_
 refine zZ3 (t := 0) V fun hlen => ?_
 rw [zF] at hlen
 refine zB <| qR V <| qO V <| zM0 V zm4 V V <| qN <| zB <| zB <| qR V <| qM V V V ?_
 refine qX V V V V co167 (pairs_spec l _) ?_
 rw [zO]
 refine qN <| zB0 ?_
 refine mwp_rangeB (ok := fun σ => σ.length = S.length + 3 ∧ σ[(S ++ [MObj.cells [.bool false]]).length]? = some (.cells [.lst none 1 (l.map encX)])) (ys := pairsY l) .ret (.inl V) (fun j => Op.bytesLess (l.getD j []) (l.getD (j + 1) [])) (fun j => ([.cells [.bool false], .cells [.lst none 1 (l.map encX)]] : MS)) (fun j => ([.cells [.bool false], .cells [.lst none 1 (l.map encX)]] : MS)) (fun j => V) (fun j => V) V (fun j o ho n hn => by simp at ho; rcases ho with rfl | rfl <;> intro x hx <;> (simp at hx; subst hx; first | exact .bool _ | exact zL5 _ _ | exact cl_clocks _ _)) (fun j o ho n hn => by simp at ho; rcases ho with rfl | rfl <;> intro x hx <;> (simp at hx; subst hx; first | exact .bool _ | exact zL5 _ _ | exact cl_clocks _ _)) V co215 V (by simp) ((pairs_iter l hlen _ _).weak fun σ h => h.1) (fun j => ⟨by simp, get_box⟩) (fun j s q => ⟨by simp, get_box⟩) V (fun y hy => by obtain ⟨i, _, rfl⟩ := List.mem_map.1 hy; rfl) ?_ ?_ ?_
 ·
  intro j y hy hbef L'
  obtain ⟨hjl, hys⟩ := zD.1 hy
  have hpl := pairsY_len l
  obtain ⟨a, hs⟩ : ∃ a, l[j]? = some a := ⟨_, zC (by omega)⟩
  obtain ⟨b, hs2⟩ : ∃ a, l[j + 1]? = some a := ⟨_, zC (by omega)⟩
  have hyy := pairsY_get hs hs2
  rw [hy] at hyy
  injection hyy with hyy
  subst hyy
  have ha : l.getD j [] = a := by simp [hs]
  have hb : l.getD (j + 1) [] = b := by simp [hs2]
  rw [ha, hb]
  refine zB <| qR V <| qA V V V <| qN <| qR V <| qA V V V <| qN ?_
  refine ⟨rfl, [], by rw [List.append_nil], ?_⟩
  rw [List.append_nil]
  refine zB0 <| zB <| qR V <| qM V V V <| qM V V V <| qO V <| zB3 V V V V <| qN ?_
  refine zM V (fun h11 => ?_) (fun h11 => ?_)
  ·
   refine zB <| qR V <| qO V <| zB4 V V V V sz4 V V (zA V) V <| qN <| zH ?_
   exact .inr ⟨by simpa using h11, rfl, [], by rw [List.append_nil]; rfl⟩
  ·
   refine zX ?_
   exact .inl ⟨by simpa using h11, rfl, [], by rw [List.append_nil]⟩
 ·
  intro hall
  rw [zO]
  have hr : risesF l = true := (rises_iff l).2 fun i hi => hall i (by rw [pairsY_len]; omega)
  refine zB <| qR V <| qO V <| zZ V V V V sz4 V V (zA V) V <| qN <| zH ?_
  exact zF3 (.inr V) Tryz.results118 V V ta4 V (.refl _) (.bool _) ⟨by rw [hr], rfl⟩
 ·
  intro j y hy hp
  have hjl := (zD.1 hy).1
  rw [pairsY_len] at hjl
  have hr : risesF l = false := by
   cases h : risesF l with
   | false => rfl
   | true => rw [(rises_iff l).1 h j (by omega)] at hp; cases hp
  rw [zO]
  exact zF3 (.inr V) Tryz.results118 V V ta4 V (.refl _) (.bool _) ⟨by rw [hr], rfl⟩
theorem two_iter (l : List (List Tk)) (hlen : l.length ≤ maxLen) (bid l0 : Nat) : IterOk Tryz.prog 286 [] [.ref bid 0] ((twoY l).map encP) (fun σ => σ.length = l0 ∧ σ[bid]? = some (.cells [.lst none 1 (l.map encC)])) := by
 refine iterOk_of fun id T m hok hm hyt hyf => ?_
 have hml : ((twoY l).map encP).length = (twoY l).length := zF ..
 refine zR Tryz.func286 V Tryz.ntmps286 (zA V) ?_
 rw [List.append_nil]
 show mwp _ _ _ _ _ _ _ (([] : MS) ++ T 0)
 refine zB <| qR V <| qO V <| zJ V V (hok _).2 ta24 V <| qE V V zD0 V <| qM V V V <| qN <| zB0 ?_
 refine zK2 (α := Nat × Nat) [(0, _), (1, _), (6, _)] (fun x => [(7, .int .i64 (x.2 : Int))]) (fun x => T x.1) (fun x => x.1 ≤ m ∧ x.2 ≤ l.length ∧ twoY (l.drop x.2) = (twoY l).drop x.1) (fun x => l.length - x.2) (⟨0, 0⟩) (.keep V (.keep V (.keep V (.nil)))) (.keep V (.nil)) (⟨by simp, by simp, rfl⟩) (V) ?_
 rintro ⟨j, i⟩ ⟨hj, hi, he⟩
 dsimp only at hj hi he ⊢
 refine zB <| qR V <| qC V V V V V <| qN <| zB ?_
 refine zM V (fun h8 => ?_) (fun h8 => ?_)
 ·
  have hlt : i < l.length := by rw [zF] at h8; simpa using h8
  obtain ⟨a, hs⟩ : ∃ a, l[i]? = some a := ⟨_, zC hlt⟩
  refine zX <| zB <| zB0 <| zB <| qR V <| qM V V V <| qA V V V <| qN <| zB <| qR V <| qM V V V <| qO V <| zH1 V V V (wadd (a := i) (b := 1) V (by simp only [maxLen] at hlen; omega)) ?_
  refine qA V V V <| qN <| zB0 ?_
  refine zK2 (α := Nat × Nat) [(0, _), (1, _), (3, _), (6, _), (7, _)] (fun y => [(4, .int .i64 (y.2 : Int))]) (fun y => T y.1) (fun y => y.1 ≤ m ∧ y.2 ≤ l.length ∧ (l.drop y.2).map (fun b => (a, b)) ++ twoY (l.drop (i + 1)) = (twoY l).drop y.1) (fun y => l.length - y.2) (⟨j, i + 1⟩) (.keep V (.keep V (.keep V (.keep V (.keep V (.nil)))))) (.keep V (.nil)) (⟨hj, by dsimp only; omega, by dsimp only; rw [← he, drop_at hs, twoY]⟩) (V) ?_
  rintro ⟨j2, k⟩ ⟨hj2, hk, he2⟩
  dsimp only at hj2 hk he2 ⊢
  refine zB <| zB <| qR V <| qM V V V <| qO V <| zJ V V (hok _).2 ta24 V <| qE V V zD0 V <| qC V V V V V <| qN ?_
  refine zM V (fun h15 => ?_) (fun h15 => ?_)
  ·
   have hlt2 : k < l.length := by rw [zF] at h15; simpa using h15
   obtain ⟨b, hs2⟩ : ∃ a, l[k]? = some a := ⟨_, zC hlt2⟩
   have hnx := he2
   rw [drop_at hs2, List.map_cons, List.cons_append] at hnx
   obtain ⟨hy, hnx⟩ := zQ1 hnx
   replace hy : ((twoY l).map encP)[j2]? = some [encC a, encC b] := by rw [zI0, hy]; rfl
   have hjl := (zD.1 hy).1
   refine zX <| zB <| zB0 <| zB ?_
   rcases Nat.lt_or_eq_of_le hj2 with hjm | hjm
   ·
    refine zW0 [9] [_, T (j2 + 1)] mo (by decide) V V V V ?_
    refine dO V V V (zY V V Vv) <| zN V V (.cons (zJ V V (hok _).2 ta24 V Vv) (.cons (zJ V V (hok _).2 ta24 V Vv) (.nil))) <| zN V V (.cons (zY V V Vv) (.cons (zY V V Vv) (.nil))) <| zN V V (.cons (zI V zD0 sz202 (by decide) V V V (zM1 hs) Vv) (.cons (zI V zD0 sz202 (by decide) V V V (zM1 hs) Vv) (.nil))) ?_
    refine dO V V V (zL V V ta202 V Vv) <| zN V V (.cons (zJ V V (hok _).2 ta24 V Vv) (.cons (zJ V V (hok _).2 ta24 V Vv) (.nil))) <| zN V V (.cons (zY V V Vv) (.cons (zY V V Vv) (.nil))) <| zN V V (.cons (zI V zD0 sz202 (by decide) V V V (zM1 hs2) Vv) (.cons (zI V zD0 sz202 (by decide) V V V (zM1 hs2) Vv) (.nil))) ?_
    refine dO V V V (zL V V ta202 V Vv) <| zV0 V V V V ((hyt j2 _ hjm hy).at0 V V V) <| dO V V V (zF1 V V Vv) <| zQ0 <| zK V (V) <| zX <| qR V <| qM V V V <| qO V <| zH1 V V V V <| qA V V V <| qN ?_
    refine ⟨⟨j2 + 1, k + 1⟩, by dsimp only; omega, ⟨by dsimp only; omega, by dsimp only; omega, hnx⟩, rfl, (.keep V (.keep V (.keep V (.keep V (.keep V (.nil)))))), (.eq V (zH2 hlt2 hlen) (.nil))⟩
   ·
    refine zW0 [9] [_, T (j2 + 1)] mo (by decide) V V V V ?_
    refine dO V V V (zY V V Vv) <| zN V V (.cons (zJ V V (hok _).2 ta24 V Vv) (.cons (zJ V V (hok _).2 ta24 V Vv) (.nil))) <| zN V V (.cons (zY V V Vv) (.cons (zY V V Vv) (.nil))) <| zN V V (.cons (zI V zD0 sz202 (by decide) V V V (zM1 hs) Vv) (.cons (zI V zD0 sz202 (by decide) V V V (zM1 hs) Vv) (.nil))) ?_
    refine dO V V V (zL V V ta202 V Vv) <| zN V V (.cons (zJ V V (hok _).2 ta24 V Vv) (.cons (zJ V V (hok _).2 ta24 V Vv) (.nil))) <| zN V V (.cons (zY V V Vv) (.cons (zY V V Vv) (.nil))) <| zN V V (.cons (zI V zD0 sz202 (by decide) V V V (zM1 hs2) Vv) (.cons (zI V zD0 sz202 (by decide) V V V (zM1 hs2) Vv) (.nil))) ?_
    refine dO V V V (zL V V ta202 V Vv) <| zV0 V V V V ((hyf j2 _ hjm hy).at0 V V V) <| dO V V V (zF1 V V Vv) <| zQ0 <| zU V (V) ?_
    refine zG1 fun hcv hcl => ?_
    refine zH ?_
    exact zV2 (S' := T (j2 + 1)) (by simp) Tryz.results286 (by rw [(hok _).1, (hok _).1]; exact Nat.le_refl _) hcl ⟨rfl, by rw [hjm, if_pos (by omega)]⟩
  ·
   have hge2 : k = l.length := by rw [zF] at h15; simp at h15; omega
   refine zV1 <| qR V <| qO V <| zH1 V V V V <| qM V V V <| qN ?_
   refine ⟨⟨j2, i + 1⟩, by dsimp only; omega, ⟨by dsimp only; omega, by dsimp only; omega, by rw [hge2, List.drop_length] at he2; exact he2⟩, rfl, (.keep V (.keep V (.keep V (.nil)))), (.eq V (zH2 hlt hlen) (.nil))⟩
 ·
  have hge : i = l.length := by rw [zF] at h8; simp at h8; omega
  rw [hge, List.drop_length] at he
  have hdl := drop_nil_len he
  have hjm : j = m := by omega
  refine zG1 fun hcv hcl => ?_
  refine zV1 ?_
  exact zV2 (S' := T j) (by simp) Tryz.results286 (by rw [(hok _).1, (hok _).1]; exact Nat.le_refl _) hcl ⟨rfl, by rw [hjm, if_neg (by omega)]⟩
theorem two_spec (l : List (List Tk)) (S : MS) : MCalls Tryz.prog 250 [.lst none 1 (l.map encC)] S fun v σ' => v = .fn (.func 286) [] [.ref S.length 0] ∧ σ' = S ++ [.cells [.lst none 1 (l.map encC)]] := by
 refine zR Tryz.func250 V Tryz.ntmps250 (zA V) ?_
 refine zB <| qR V <| qB V V V V V <| qA V V V <| qN <| zB <| qR V <| qO V <| zI2 V V V <| qA V V V <| qN ?_
 refine zG1 fun hcv hcl => ?_
 refine zH ?_
 exact ret_tmpT (.inr V) Tryz.results250 V (.refl _) (hcv 2 _ rfl) (by simp) hcl Vv
theorem isNaNu_spec (m : Int) (S : MS) : MCalls Tryz.prog 298 [.int .u64 m] S fun v σ' => v = .bool false ∧ σ' = S := by
 refine zR Tryz.func298 V Tryz.ntmps298 (zA V) ?_
 refine zB <| qR V <| qA V V V <| qN <| zB <| qR V <| qM V V V <| qM V V V <| qC V V V V V <| qA V V V <| qN <| zH ?_
 exact zT (.inr V) Tryz.results298 V (.of_eq (by simp)) (.bool _) Vv
theorem compareu_spec (m n : Int) (S : MS) : MCalls Tryz.prog 271 [.int .u64 m, .int .u64 n] S fun v σ' => v = .int .i64 (cmpI m n) ∧ σ' = S := by
 refine zR Tryz.func271 V Tryz.ntmps271 (zA V) ?_
 refine zB <| qR V <| qA V V V <| qN <| zB <| qR V <| qM V V V ?_
 refine qX V V V V co298 (isNaNu_spec m _) ?_
 refine qA V V V <| qN <| zB <| qR V <| qM V V V ?_
 refine qX V V V V co298 (isNaNu_spec n _) ?_
 refine qA V V V <| qN <| zB <| zB <| qR V <| qM V V V <| qN <| zK V (V) <| zX <| zB <| zB <| qR V <| qM V V V <| qN <| zK V (V) <| zX <| zB <| zB <| qR V <| qM V V V <| qM V V V <| qC V V V V V <| qN ?_
 refine zM V (fun h16 => ?_) (fun h16 => ?_)
 ·
  refine zB <| qR V <| qA V V V <| qN <| zH ?_
  exact zT (.inr V) Tryz.results271 V (.of_eq (by unfold cmpI; simp_all <;> omega)) (.int _ _) Vv
 ·
  refine zX <| zB <| zB <| qR V <| qM V V V <| qM V V V <| qC V V V V V <| qN ?_
  refine zM V (fun h19 => ?_) (fun h19 => ?_)
  ·
   refine zB <| qR V <| qA V V V <| qN <| zH ?_
   exact zT (.inr V) Tryz.results271 V (.of_eq (by unfold cmpI; simp_all <;> omega)) (.int _ _) Vv
  ·
   refine zX <| zB <| qR V <| qA V V V <| qN <| zH ?_
   exact zT (.inr V) Tryz.results271 V (.of_eq (by unfold cmpI; simp_all <;> omega)) (.int _ _) Vv
theorem _root_.zN5 : type_of% @Tryz.underlying356 := @Tryz.underlying356
theorem cmpOr_spec (l : List Int) (S : MS) : MCalls Tryz.prog 270 [.lst none 1 (l.map encI)] S fun v σ' => v = .int .i64 (orF l) ∧ σ' = S := by
 refine zR Tryz.func270 V Tryz.ntmps270 (zA V) ?_
 refine zZ3 (t := 0) V fun hlen => ?_
 rw [zF] at hlen
 refine zB <| qR V <| qA V V V <| qN <| zB <| qR V <| qA V V V <| qN <| zB <| zB <| qR V <| qM V V V <| qE V V zN5 V <| qM V V V <| qN <| zB0 ?_
 refine zK2 (α := Nat) [(3, _), (6, _), (7, _)] (fun i => [(8, .int .i64 (i : Int))]) (fun i => []) (fun i => i ≤ l.length ∧ orF (l.drop i) = orF l) (fun i => l.length - i) (0) (.keep V (.keep V (.keep V (.nil)))) (.keep V (.nil)) (⟨by omega, rfl⟩) (V) ?_
 rintro i ⟨hi, he⟩
 refine zB <| qR V <| qC V V V V V <| qN <| zB ?_
 refine zM V (fun h9 => ?_) (fun h9 => ?_)
 ·
  have hlt : i < l.length := by simpa using h9
  obtain ⟨a, hs⟩ : ∃ q_, l[i]? = some q_ := ⟨_, zC hlt⟩
  refine zX <| zB <| zB0 <| zB <| qR V <| qO V <| zI V zN5 sz3 (by decide) V V V (zM1 hs) ?_
  refine qO V <| zL V V ta3 V <| qA V V V <| qN <| zB <| qR V <| qM V V V <| qM V V V <| qC V V V V V <| qN ?_
  refine zM V (fun h14 => ?_) (fun h14 => ?_)
  ·
   refine zB <| qR V <| qM V V V <| qA V V V <| qN <| zH ?_
   exact zT (.inr V) Tryz.results270 V (.of_eq (by rw [← he, drop_at hs, or_cons, if_pos (by simpa using h14)]; rfl)) (.int _ _) Vv
  ·
   refine zX <| qR V <| qO V <| zH1 V V V V <| qM V V V <| qN ?_
   refine ⟨i + 1, by omega, ⟨by omega, by rw [← he, drop_at hs, or_cons, if_neg (by simpa using h14)]⟩, rfl, (.keep V (.keep V (.keep V (.nil)))), (.eq V (zH2 hlt hlen) (.nil))⟩
 ·
  have hge : i = l.length := by simp at h9; omega
  refine zV1 <| zB <| qR V <| qM V V V <| qA V V V <| qN <| zH ?_
  exact zT (.inr V) Tryz.results270 V (.of_eq (by rw [← he, hge, List.drop_length]; rfl)) (.int _ _) Vv
theorem byTicks1_spec (x y : Tk) (S : MS) : MCalls Tryz.prog 288 [encT x, encT y] S fun v σ' => v = .int .i64 (tickC x y) ∧ σ' = S := by
 refine zR Tryz.func288 V Tryz.ntmps288 (zA V) ?_
 refine zB <| qR V <| qB V V V V V <| qB V V V V V <| qA V V V <| qN <| zB ?_
 refine zW0 [] [_] mo (by decide) V V V V ?_
 refine dO V V V (zG V V zD5 Vv) <| dO V V V (zN0 V V V ta3 V Vv) <| dO V V V (zG V V zD5 Vv) <| dO V V V (zN0 V V V ta3 V Vv) <| zN V V (.cons (zT0 V V V co166 (compare_spec x.1 y.1 _)) .nil) <| dO V V V (zG V V fo262_1 Vv) <| dO V V V (zN0 V V V ta22 V Vv) <| dO V V V (zG V V fo262_1 Vv) <| dO V V V (zN0 V V V ta22 V Vv) <| zN V V (.cons (zT0 V V V co271 (compareu_spec x.2 y.2 _)) .nil) <| dO V V V (zL1 V zN5 el3 V V (by decide) (by decide) V V Vv) ?_
 refine zN V V (.cons (zT0 V V V co270 (cmpOr_spec [cmpI x.1 y.1, cmpI x.2 y.2] _)) .nil) <| dO V V V (zZ0 V V Vv) <| zQ0 <| zH ?_
 exact zT (.inr V) Tryz.results288 V (.of_eq (by rw [or_two]; rfl)) (.int _ _) Vv
theorem _root_.zD4 : type_of% @Tryz.results287 := @Tryz.results287
theorem cmpFuncT_spec (a b : List Tk) (S : MS) : MCalls Tryz.prog 287 [.lst none 2 (a.map encT), .lst none 2 (b.map encT), .fn (.func 288) [] []] S fun v σ' => v = .int .i64 (byTicksF a b) ∧ σ' = S := by
 refine zR Tryz.func287 V Tryz.ntmps287 (zA V) ?_
 refine zZ3 (t := 0) V fun hlen => ?_
 rw [zF] at hlen
 refine zB <| qR V <| qA V V V <| qN <| zB <| zB <| qR V <| qM V V V <| qE V V zC0 V <| qM V V V <| qN <| zB0 ?_
 refine zO4 (α := Nat) [(0, _), (1, _), (2, _), (11, _), (12, _)] (fun i => [(13, .int .i64 (i : Int))]) (fun i => []) (fun i => i ≤ a.length ∧ i ≤ b.length ∧ byTicksF (a.drop i) (b.drop i) = byTicksF a b) (fun i => a.length - i) (0) (Nat.le_refl _) (.keep V (.keep V (.keep V (.keep V (.keep V (.nil)))))) (.keep V (.nil)) (⟨by omega, by omega, rfl⟩) (V) ?_
 rintro i ⟨hi, hib, he⟩
 refine zB <| qR V <| qC V V V V V <| qN <| zB ?_
 refine zM V (fun h14 => ?_) (fun h14 => ?_)
 ·
  have hlt : i < a.length := by simpa using h14
  obtain ⟨x, hs⟩ : ∃ q_, a[i]? = some q_ := ⟨_, zC hlt⟩
  refine zX <| zB <| zB0 <| zB <| qR V <| qM V V V <| qO V <| zI V zC0 sz262 (by decide) V V V (zM1 hs) ?_
  refine qO V <| zL V V ta262 V <| qO V <| zM0 V zm262 V V <| qA V V V <| qO V <| zZ V V V V sz262 V V (zA V) V <| qN <| zB <| zB <| qR V <| qM V V V <| qM V V V <| qE V V zC0 V <| qC V V V V V <| qN ?_
  refine zM V (fun h21 => ?_) (fun h21 => ?_)
  ·
   have hbe : b.drop i = [] := by rw [zF] at h21; simp at h21; exact List.drop_eq_nil_of_le (by omega)
   refine zB <| qR V <| qA V V V <| qN <| zH ?_
   exact zT (.inr V) zD4 V (.of_eq (by rw [← he, hbe, drop_at hs]; rfl)) (.int _ _) Vv
  ·
   have hltb : i < b.length := by rw [zF] at h21; simp at h21; omega
   obtain ⟨y, hs2⟩ : ∃ s, b[i]? = some s := ⟨_, zC hltb⟩
   refine zX <| zB <| qR V <| qM V V V <| qM V V V <| qO V <| zI V zC0 sz262 (by decide) V V V (zM1 hs2) ?_
   refine qO V <| zL V V ta262 V <| qO V <| zM0 V zm262 V V <| qO V <| zZ V V V V sz262 V V (zA V) V <| qN <| zB <| qR V <| qM V V V <| qL V V V V ta262 V <| qL V V V V ta262 V ?_
   refine qX V V V V co288 (byTicks1_spec x y _) ?_
   refine qA V V V <| qN <| zB <| qR V <| qM V V V <| qC V V V V V <| qN ?_
   refine zM V (fun h31 => ?_) (fun h31 => ?_)
   ·
    refine zB <| qR V <| qM V V V <| qA V V V <| qN <| zH ?_
    exact zT (.inr V) zD4 V (.of_eq (by rw [← he, ticks_at hs hs2, if_pos (by simpa using h31)])) (.int _ _) Vv
   ·
    refine zX <| qR V <| qO V <| zH1 V V V V <| qM V V V <| qN ?_
    refine ⟨i + 1, _, by omega, ⟨by omega, by omega, by rw [← he, ticks_at hs hs2, if_neg (by simpa using h31)]⟩, rfl, .nil, (.old V V (.old V V (.old V V (.old V V (.old V V (.nil)))))), (.new' V (zH2 hlt hlen) (.int _ _) (.nil))⟩
 ·
  have hge : i = a.length := by simp at h14; omega
  refine zV1 <| zB <| zB <| qR V <| qM V V V <| qE V V zC0 V <| qM V V V <| qE V V zC0 V <| qC V V V V V <| qN ?_
  refine zM V (fun h38 => ?_) (fun h38 => ?_)
  ·
   refine zB <| qR V <| qA V V V <| qN <| zH ?_
   exact zT (.inr V) zD4 V (.of_eq (by simp at h38; rw [← he, hge, List.drop_length, drop_at (zC (by omega : a.length < b.length))]; rfl)) (.int _ _) Vv
  ·
   refine zX <| zB <| qR V <| qA V V V <| qN <| zH ?_
   exact zT (.inr V) zD4 V (.of_eq (by simp at h38; rw [← he, hge, List.drop_length, List.drop_eq_nil_of_le (by omega : b.length ≤ a.length)]; rfl)) (.int _ _) Vv
theorem byTicks_spec (a b : List Tk) (S : MS) : MCalls Tryz.prog 251 [.lst none 2 (a.map encT), .lst none 2 (b.map encT)] S fun v σ' => v = .int .i64 (byTicksF a b) ∧ σ' = S := by
 refine zR Tryz.func251 V Tryz.ntmps251 (zA V) ?_
 refine zB <| qR V <| qA V V V <| qN <| zB <| qR V <| qM V V V <| qM V V V ?_
 refine qX V V V V co287 (cmpFuncT_spec a b _) ?_
 refine qA V V V <| qN <| zH ?_
 exact zT (.inr V) Tryz.results251 V (.of_eq (V)) (.int _ _) Vv
theorem isCause_spec (l : List (List Tk)) (S : MS) : MCalls Tryz.prog 212 [.lst none 1 (l.map encC)] S fun v σ' => v = .bool (isCauseF l) ∧ σ' = S := by
 refine zR Tryz.func212 V Tryz.ntmps212 (zA V) ?_
 refine zZ3 (t := 0) V fun hlen => ?_
 rw [zF] at hlen
 refine zB <| qR V <| qO V <| zM0 V zm4 V V <| qN <| zB <| zB <| qR V <| qM V V V <| qE V V zD0 V <| qM V V V <| qN <| zB0 ?_
 refine zK2 (α := Nat) [(0, _), (2, _), (7, _), (8, _)] (fun i => [(9, .int .i64 (i : Int))]) (fun i => [.cells [.bool false]]) (fun i => i ≤ l.length ∧ (l.take i).all isClockF = true) (fun i => l.length - i) (0) (.keep V (.keep V (.keep V (.keep V (.nil))))) (.keep V (.nil)) (⟨by omega, rfl⟩) (V) ?_
 rintro i ⟨hi, hall⟩
 refine zB <| qR V <| qC V V V V V <| qN <| zB ?_
 refine zM V (fun h10 => ?_) (fun h10 => ?_)
 ·
  have hlt : i < l.length := by simpa using h10
  obtain ⟨c, hs⟩ : ∃ q_, l[i]? = some q_ := ⟨_, zC hlt⟩
  refine zX <| zB <| zB0 <| zB <| qR V <| qO V <| zI V zD0 sz202 (by decide) V V V (zM1 hs) ?_
  refine qO V <| zL V V ta202 V <| qA V V V <| qN <| zB <| qR V <| qM V V V ?_
  refine qX V V V V co211 (clkIs_spec c _) ?_
  refine qO V <| zF1 V V <| qN ?_
  refine zM V (fun h15 => ?_) (fun h15 => ?_)
  ·
   refine zB <| qR V <| qO V <| zZ V V V V sz4 V V (zA V) V <| qN <| zH ?_
   exact zF3 (.inr V) Tryz.results212 V V ta4 V (.refl _) (.bool _) ⟨by rw [isCauseF, List.all_eq_false.2 ⟨c, zW hs, by simpa using h15⟩]; rfl, rfl⟩
  ·
   refine zX <| qR V <| qO V <| zH1 V V V V <| qM V V V <| qN ?_
   refine ⟨i + 1, by omega, ⟨by omega, ?_⟩, rfl, (.keep V (.keep V (.keep V (.keep V (.nil))))), (.eq V (zH2 hlt hlen) (.nil))⟩
   rw [List.take_add_one, hs, List.all_append, hall]
   simpa using h15
 ·
  have hge : i = l.length := by simp at h10; omega
  rw [hge, List.take_length] at hall
  have hcl := hall
  refine zV1 <| zB <| zB <| qR V <| qM V V V ?_
  refine qX V V V V co250 (two_spec l _) ?_
  rw [zO]
  refine qN <| zB0 ?_
  refine mwp_rangeB (ok := fun σ => σ.length = S.length + 3 ∧ σ[(S ++ [MObj.cells [.bool false]]).length]? = some (.cells [.lst none 1 (l.map encC)])) (ys := (twoY l).map encP) .ret (.inl V) (fun j => (match (twoY l)[j]? with | some p => pairF p.1 p.2 | none => true)) (fun j => ([.cells [.bool false], .cells [.lst none 1 (l.map encC)]] : MS)) (fun j => ([.cells [.bool false], .cells [.lst none 1 (l.map encC)]] : MS)) (fun j => V) (fun j => V) V (fun j o ho n hn => by simp at ho; rcases ho with rfl | rfl <;> intro x hx <;> (simp at hx; subst hx; first | exact .bool _ | exact zL5 _ _ | exact cl_clocks _ _)) (fun j o ho n hn => by simp at ho; rcases ho with rfl | rfl <;> intro x hx <;> (simp at hx; subst hx; first | exact .bool _ | exact zL5 _ _ | exact cl_clocks _ _)) V co286 V (by simp) ((two_iter l hlen _ _).weak fun σ h => h.1) (fun j => ⟨by simp, get_box⟩) (fun j s q => ⟨by simp, get_box⟩) V (fun y hy => by obtain ⟨i, _, rfl⟩ := List.mem_map.1 hy; rfl) ?_ ?_ ?_
  ·
   intro j y hy hbef L'
   rw [zI0] at hy
   obtain ⟨⟨a, b⟩, hp, rfl⟩ := Option.map_eq_some_iff.1 hy
   rw [hp]
   obtain ⟨ha, hb⟩ := two_mem (zW hp)
   have la := clock_len (List.all_eq_true.1 hcl a ha)
   have lb := clock_len (List.all_eq_true.1 hcl b hb)
   refine zB <| qR V <| qA V V V <| qN <| qR V <| qA V V V <| qN ?_
   refine ⟨rfl, [], by rw [List.append_nil], ?_⟩
   rw [List.append_nil]
   refine zB0 <| zB <| qR V <| qM V V V <| qM V V V ?_
   refine qX V V V V co251 (byTicks_spec a b _) ?_
   refine qC V V V V V <| qM V V V ?_
   refine zH0 (fun h25 => ?_) (fun h25 => ?_)
   ·
    refine qT V V V V <| qP V V V V <| qN <| zU V (V) <| zB <| qR V <| qO V <| zB4 V V V V sz4 V V (zA V) V <| qN <| zH ?_
    exact .inr ⟨by simp only [pairF]; simp_all <;> (intros; omega), rfl, [], by rw [List.append_nil]; rfl⟩
   ·
    refine qM V V V <| qM V V V ?_
    refine qX V V V V co252 (clkCmp_spec a b (by omega) _) ?_
    refine qC V V V V V <| qP V V V V <| qN ?_
    refine zM V (fun h30 => ?_) (fun h30 => ?_)
    ·
     refine zB <| qR V <| qO V <| zB4 V V V V sz4 V V (zA V) V <| qN <| zH ?_
     exact .inr ⟨by simp only [pairF]; simp_all <;> (intros; omega), rfl, [], by rw [List.append_nil]; rfl⟩
    ·
     refine zX ?_
     exact .inl ⟨by simp only [pairF]; simp_all, rfl, [], by rw [List.append_nil]⟩
  ·
   intro hall2
   rw [zO]
   have hr : isCauseF l = true := by
    rw [isCauseF, hcl, Bool.true_and, two_iff]
    intro p hp
    obtain ⟨j, hj, rfl⟩ := List.mem_iff_getElem.1 hp
    have := hall2 j (by rw [zF]; exact hj)
    rw [zC hj] at this
    exact this
   refine zB <| qR V <| qO V <| zZ V V V V sz4 V V (zA V) V <| qN <| zH ?_
   exact zF3 (.inr V) Tryz.results212 V V ta4 V (.refl _) (.bool _) ⟨by rw [hr], rfl⟩
  ·
   intro j y hy hp
   rw [zI0] at hy
   obtain ⟨⟨a, b⟩, hq, rfl⟩ := Option.map_eq_some_iff.1 hy
   rw [hq] at hp
   replace hp : pairF a b = false := hp
   have hr : isCauseF l = false := by
    rw [isCauseF, hcl, Bool.true_and]
    cases h : pairsF l with
    | false => rfl
    | true =>
     have : pairF a b = true := (two_iff l).1 h _ (zW hq)
     rw [this] at hp
     cases hp
   rw [zO]
   exact zF3 (.inr V) Tryz.results212 V V ta4 V (.refl _) (.bool _) ⟨by rw [hr], rfl⟩
theorem one_of {α : Type} {s : List α} (h : s.length = 1) : ∃ t, s = [t] := by
 match s, h with
 | [t], _ => exact ⟨t, rfl⟩
theorem two_of' {α : Type} {s : List α} (h : s.length = 2) : ∃ t u, s = [t, u] := by
 match s, h with
 | [t, u], _ => exact ⟨t, u, rfl⟩
theorem last_no {n m : Int} {s : List Bs} (h : ¬ s = []) (h1 : ¬ s.length = 1) : isLastF n m s = false := by
 match s, h, h1 with
 | [], h, _ => exact absurd rfl h
 | [t], _, h => exact absurd rfl h
 | _ :: _ :: _, _, _ => rfl
theorem one_ins {k : Int} {ins : List Sch} (h : partsF k = (ins.length : Int)) (hk : partsF k = 1) : ∃ t, ins = [t] := one_of (by omega)
theorem isB_mk {k : Int} {ins : List Sch} {fs : List (Val → Bool)} {n m : Int} {s : List Bs} {c : List (List Tk)} {w : List Val} : isB k ins fs (.mk n m s c w) = (bareF k (.mk n m s c w) && decide (w.length ≤ 40) && decide (c.length ≤ 40) &&
 (if k = 1 then true else if k = 2 then decide (n ≤ 1) else if k = 3 then isRowF s
  else if k = 4 then isRowF s && decide (s.length = w.length) && w.all (fun x => fs.headD (fun _ => false) x && !noneF (ins.headD default) x)
  else if k = 5 then (match w with | [x, y] => fs.headD (fun _ => false) x && fs.tail.headD (fun _ => false) y | _ => false)
  else if k = 6 then isLastF n m s
  else if k = 7 then (match c with | [] => true | [c] => decide (0 < c.length) && isClockF c | _ => false)
  else decide (c.length = w.length) && isCauseF c && w.all (fs.headD (fun _ => false)))) := rfl
theorem isVF_mk {ins : List Sch} {n m : Int} {s : List Bs} {c : List (List Tk)} {w : List Val} (k : Int) : isVF (.mk k ins) (.mk n m s c w) = (bareF k (.mk n m s c w) && decide (w.length ≤ 40) && decide (c.length ≤ 40) &&
 (if k = 1 then true else if k = 2 then decide (n ≤ 1) else if k = 3 then isRowF s
  else if k = 4 then isRowF s && decide (s.length = w.length) && w.all (fun x => (isVL ins).headD (fun _ => false) x && !noneF (ins.headD default) x)
  else if k = 5 then (match w with | [x, y] => (isVL ins).headD (fun _ => false) x && (isVL ins).tail.headD (fun _ => false) y | _ => false)
  else if k = 6 then isLastF n m s
  else if k = 7 then (match c with | [] => true | [c] => decide (0 < c.length) && isClockF c | _ => false)
  else decide (c.length = w.length) && isCauseF c && w.all ((isVL ins).headD (fun _ => false)))) := by rw [isVF, isB_mk]
theorem _root_.zY1 : type_of% @isVF_mk := @isVF_mk
theorem match2_no {f g : Val → Bool} {w : List Val} : w.length ≠ 2 → (match w with | [x, y] => f x && g y | _ => false) = false := by
 intro h
 match w, h with
 | [], _ => rfl
 | [_], _ => rfl
 | [_, _], h => exact absurd rfl h
 | _ :: _ :: _ :: _, _ => rfl
theorem match1_no {c : List (List Tk)} : ¬ c = [] → c.length ≠ 1 → (match c with | [] => true | [c] => decide (0 < c.length) && isClockF c | _ => false) = false := by
 intro h0 h
 match c, h0, h with
 | [], h, _ => exact absurd rfl h
 | [_], _, h => exact absurd rfl h
 | _ :: _ :: _, _, _ => rfl
theorem k8_of {k : Int} {n : Nat} (h : partsF k = (n : Int)) : k = 1 ∨ k = 2 ∨ k = 3 ∨ k = 4 ∨ k = 5 ∨ k = 6 ∨ k = 7 ∨ k = 8 := by
 unfold partsF at h
 split at h
 ·omega
 ·split at h
  ·omega
  ·split at h <;> omega
theorem short_any (l : List Bs) : (!(l.any fun s => decide (16 < s.length))) = shortF l := by
 unfold shortF
 rw [zP]
 simp
theorem any_all {l : List Val} {f g : Val → Bool} : (!(l.any fun x => !f x || g x)) = l.all fun x => f x && !g x := by
 rw [zP]
 simp
theorem any_all' {l : List Val} {f : Val → Bool} : (!(l.any fun x => !f x)) = l.all f := by
 rw [zP]
 simp
theorem xIndex_spec (S : MS) (l : List Bs) (p : Bs → Bool) (kf : FuncId) (first caps : List MV) (hco : CallOk Tryz.prog kf) (hp : ∀ x ∈ l, ∀ X : MS, MCalls Tryz.prog kf (first ++ [encX x] ++ caps) (S ++ X) fun v σ' => v = .bool (p x) ∧ σ' = S ++ X) : MCalls Tryz.prog 285 [.lst none 1 (l.map encX), .fn (.func kf) first caps] S fun v σ' => v = .int .i64 (findGo p 0 l) ∧ σ' = S := by
 refine zR Tryz.func285 V Tryz.ntmps285 (zA V) ?_
 refine zZ3 (t := 0) V fun hlen => ?_
 rw [zF] at hlen
 refine zB <| qR V <| qA V V V <| qN <| zB <| zB <| qR V <| qM V V V <| qE V V zE0 V <| qM V V V <| qN <| zB0 ?_
 refine zK2 (α := Nat) [(0, _), (1, _), (7, _)] (fun i => [(8, .int .i64 (i : Int))]) (fun i => []) (fun i => i ≤ l.length ∧ findGo p i (l.drop i) = findGo p 0 l) (fun i => l.length - i) (0) (.keep V (.keep V (.keep V (.nil)))) (.keep V (.nil)) (⟨by omega, rfl⟩) (V) ?_
 rintro i ⟨hi, he⟩
 refine zB <| qR V <| qC V V V V V <| qN <| zB ?_
 refine zM V (fun h9 => ?_) (fun h9 => ?_)
 ·
  rw [zF] at h9
  have hlt : i < l.length := by simpa using h9
  obtain ⟨x, hs⟩ : ∃ x, l[i]? = some x := ⟨_, zC hlt⟩
  refine zX <| zB <| zB0 <| zB <| qR V <| qM V V V <| qA V V V <| qN <| zB <| qR V <| qM V V V <| qM V V V <| qM V V V <| qO V <| zI V zE0 sz9 (by decide) V V V (zM1 hs) ?_
  refine qO V <| zL V V ta9 V ?_
  refine zM4 V (zT0 V V V hco ((hp _ (zW hs) _).mono ?_))
  rintro _ _ ⟨rfl, rfl⟩
  refine qN ?_
  refine zM V (fun h16 => ?_) (fun h16 => ?_)
  ·
   refine zB <| qR V <| qM V V V <| qA V V V <| qN <| zH ?_
   exact zT (.inr V) Tryz.results285 V (.of_eq (by rw [← he, find_at hs, h16]; rfl)) (.int _ _) Vv
  ·
   refine zX <| qR V <| qO V <| zH1 V V V V <| qM V V V <| qN ?_
   refine ⟨i + 1, by omega, ⟨by omega, by rw [← he, find_at hs, h16]; rfl⟩, rfl, (.keep V (.keep V (.keep V (.nil)))), (.eq V (zH2 hlt hlen) (.nil))⟩
 ·
  rw [zF] at h9
  have hge : i = l.length := by simp at h9; omega
  refine zV1 <| zB <| qR V <| qA V V V <| qN <| zH ?_
  exact zT (.inr V) Tryz.results285 V (.of_eq (by rw [← he, hge, List.drop_length]; rfl)) (.int _ _) Vv
theorem xContains_spec (S : MS) (l : List Bs) (p : Bs → Bool) (kf : FuncId) (first caps : List MV) (hco : CallOk Tryz.prog kf) (hp : ∀ x ∈ l, ∀ X : MS, MCalls Tryz.prog kf (first ++ [encX x] ++ caps) (S ++ X) fun v σ' => v = .bool (p x) ∧ σ' = S ++ X) : MCalls Tryz.prog 247 [.lst none 1 (l.map encX), .fn (.func kf) first caps] S fun v σ' => v = .bool (l.any p) ∧ σ' = S := by
 refine zR Tryz.func247 V Tryz.ntmps247 (zA V) ?_
 refine zB <| qR V <| qA V V V <| qN <| zB <| qR V <| qM V V V <| qM V V V ?_
 refine qX V V V V co285 (xIndex_spec (S ++ []) l p kf first caps hco (by rw [List.append_nil]; exact hp)) ?_
 refine qC V V V V V <| qA V V V <| qN <| zH ?_
 exact zT (.inr V) Tryz.results247 V (.of_eq (by rw [find_any p 0 l])) (.bool _) Vv
theorem vIndex_spec (S : MS) (l : List Val) (p : Val → Bool) (kf : FuncId) (first caps : List MV) (hco : CallOk Tryz.prog kf) (hp : ∀ x ∈ l, ∀ X : MS, MCalls Tryz.prog kf (first ++ [encV x] ++ caps) (S ++ X) fun v σ' => v = .bool (p x) ∧ σ' = S ++ X) : MCalls Tryz.prog 249 [.lst none 5 (encVs l), .fn (.func kf) first caps] S fun v σ' => v = .int .i64 (findGo p 0 l) ∧ σ' = S := by
 refine zR Tryz.func249 V Tryz.ntmps249 (zA V) ?_
 refine zZ3 (t := 0) V fun hlen => ?_
 rw [zX0] at hlen
 refine zB <| qR V <| qA V V V <| qN <| zB <| zB <| qR V <| qM V V V <| qE V V zG0 V <| qM V V V <| qN <| zB0 ?_
 refine zK2 (α := Nat) [(0, _), (1, _), (7, _)] (fun i => [(8, .int .i64 (i : Int))]) (fun i => []) (fun i => i ≤ l.length ∧ findGo p i (l.drop i) = findGo p 0 l) (fun i => l.length - i) (0) (.keep V (.keep V (.keep V (.nil)))) (.keep V (.nil)) (⟨by omega, rfl⟩) (V) ?_
 rintro i ⟨hi, he⟩
 refine zB <| qR V <| qC V V V V V <| qN <| zB ?_
 refine zM V (fun h9 => ?_) (fun h9 => ?_)
 ·
  rw [zX0] at h9
  have hlt : i < l.length := by simpa using h9
  obtain ⟨x, hs⟩ : ∃ x, l[i]? = some x := ⟨_, zC hlt⟩
  obtain ⟨n1, m1, s1, c1, w1⟩ := x
  refine zX <| zB <| zB0 <| zB <| qR V <| qM V V V <| qA V V V <| qN <| zB <| qR V <| qM V V V <| qM V V V <| qM V V V <| qO V <| zI V zG0 sz27 (by decide) V V V (zC4 hs) ?_
  refine qO V <| zL V V ta27 V ?_
  refine zM4 V (zT0 V V V hco ((hp _ (zW hs) _).mono ?_))
  rintro _ _ ⟨rfl, rfl⟩
  refine qN ?_
  refine zM V (fun h16 => ?_) (fun h16 => ?_)
  ·
   refine zB <| qR V <| qM V V V <| qA V V V <| qN <| zH ?_
   exact zT (.inr V) Tryz.results249 V (.of_eq (by rw [← he, find_at hs, h16]; rfl)) (.int _ _) Vv
  ·
   refine zX <| qR V <| qO V <| zH1 V V V V <| qM V V V <| qN ?_
   refine ⟨i + 1, by omega, ⟨by omega, by rw [← he, find_at hs, h16]; rfl⟩, rfl, (.keep V (.keep V (.keep V (.nil)))), (.eq V (zH2 hlt hlen) (.nil))⟩
 ·
  rw [zX0] at h9
  have hge : i = l.length := by simp at h9; omega
  refine zV1 <| zB <| qR V <| qA V V V <| qN <| zH ?_
  exact zT (.inr V) Tryz.results249 V (.of_eq (by rw [← he, hge, List.drop_length]; rfl)) (.int _ _) Vv
theorem vContains_spec (S : MS) (l : List Val) (p : Val → Bool) (kf : FuncId) (first caps : List MV) (hco : CallOk Tryz.prog kf) (hp : ∀ x ∈ l, ∀ X : MS, MCalls Tryz.prog kf (first ++ [encV x] ++ caps) (S ++ X) fun v σ' => v = .bool (p x) ∧ σ' = S ++ X) : MCalls Tryz.prog 208 [.lst none 5 (encVs l), .fn (.func kf) first caps] S fun v σ' => v = .bool (l.any p) ∧ σ' = S := by
 refine zR Tryz.func208 V Tryz.ntmps208 (zA V) ?_
 refine zB <| qR V <| qA V V V <| qN <| zB <| qR V <| qM V V V <| qM V V V ?_
 refine qX V V V V co249 (vIndex_spec (S ++ []) l p kf first caps hco (by rw [List.append_nil]; exact hp)) ?_
 refine qC V V V V V <| qA V V V <| qN <| zH ?_
 exact zT (.inr V) Tryz.results208 V (.of_eq (by rw [find_any p 0 l])) (.bool _) Vv
theorem isRow1_spec (s : Bs) (S : MS) : MCalls Tryz.prog 248 [.str (bs s)] S fun v σ' => v = .bool (decide (16 < s.length)) ∧ σ' = S := by
 refine zR Tryz.func248 V Tryz.ntmps248 (zA V) ?_
 refine zB <| qR V <| qA V V V <| qN <| zB <| qR V <| qM V V V <| qO V <| zO3 V zL0 V <| qC V V V V V <| qA V V V <| qN <| zH ?_
 exact zT (.inr V) Tryz.results248 V (.of_eq (by congr 1; rw [zP]; simp; omega)) (.bool _) Vv
theorem isRow_spec (l : List Bs) (S : MS) : MCalls Tryz.prog 207 [.lst none 1 (l.map encX)] S fun v σ' => v = .bool (isRowF l) ∧ σ' = S := by
 refine zR Tryz.func207 V Tryz.ntmps207 (zA V) ?_
 refine zB <| qR V <| qA V V V <| qN <| zB <| qR V <| qM V V V <| qE V V zE0 V <| qC V V V V V <| qM V V V ?_
 refine zH0 (fun h6 => ?_) (fun h6 => ?_)
 ·
  refine qM V V V ?_
  refine qX V V V V co118 (rowsIs_spec l _) ?_
  refine qP V V V V <| qM V V V ?_
  refine zH0 (fun h10 => ?_) (fun h10 => ?_)
  ·
   refine qM V V V ?_
   refine qX V V V V co247 (xContains_spec _ l (fun s => decide (16 < s.length)) _ [] [] co248 (fun x _ X => isRow1_spec x _)) ?_
   refine qO V <| zF1 V V <| qP V V V V <| qA V V V <| qN <| zH ?_
   exact zT (.inr V) Tryz.results207 V (.of_eq (by congr 1; unfold isRowF; rw [← short_any, zP]; simp_all <;> omega)) (.bool _) Vv
  ·
   refine qS V <| qS V <| qS V <| qP V V V V <| qA V V V <| qN <| zH ?_
   exact zT (.inr V) Tryz.results207 V (.of_eq (by congr 1; unfold isRowF; rw [← short_any, zP]; simp_all <;> omega)) (.bool _) Vv
 ·
  refine qS V <| qS V <| qP V V V V <| qM V V V <| qS V <| qS V <| qS V <| qP V V V V <| qA V V V <| qN <| zH ?_
  exact zT (.inr V) Tryz.results207 V (.of_eq (by congr 1; unfold isRowF; rw [← short_any, zP]; simp_all <;> omega)) (.bool _) Vv
theorem _root_.zU4 : type_of% @Tryz.results210 := @Tryz.results210
theorem isLast_spec (n m : Int) (s : List Bs) (c : List (List Tk)) (w : List Val) (hn : 0 ≤ n) (hm : 0 ≤ m) (S : MS) : MCalls Tryz.prog 210 [encV (.mk n m s c w)] S fun v σ' => v = .bool (isLastF n m s) ∧ σ' = S := by
 refine zR Tryz.func210 V Tryz.ntmps210 (zA V) ?_
 refine zB <| qR V <| qB V V V V V <| qA V V V <| qN <| zB <| zB <| qR V <| qF V V V zZ2 <| qL V V V V ta23 V <| qE V V zE0 V <| qC V V V V V <| qN ?_
 refine zM V (fun h6 => ?_) (fun h6 => ?_)
 ·
  have hs0 : s = [] := by simpa using h6
  subst hs0
  refine zB <| qR V <| qF V V V zX3 <| qL V V V V ta22 V <| qC V V V V V <| qM V V V ?_
  refine zH0 (fun h10 => ?_) (fun h10 => ?_)
  ·
   refine qF V V V fo27_1 <| qL V V V V ta22 V <| qC V V V V V <| qP V V V V <| qA V V V <| qN <| zH ?_
   exact zT (.inr V) zU4 V (.of_eq (by first | (rw [hF]; done) | (congr 1; rw [zP]; simp_all [isLastF]; done) | (congr 1; rw [zP]; simp_all [isLastF]; omega))) (.bool _) Vv
  ·
   refine qS V <| qS V <| qS V <| qP V V V V <| qA V V V <| qN <| zH ?_
   exact zT (.inr V) zU4 V (.of_eq (by first | (rw [hF]; done) | (congr 1; rw [zP]; simp_all [isLastF]; done) | (congr 1; rw [zP]; simp_all [isLastF]; omega))) (.bool _) Vv
 ·
  have hs0 : ¬ s = [] := by simpa using h6
  refine zX <| zB <| qR V <| qF V V V zZ2 <| qL V V V V ta23 V <| qE V V zE0 V <| qC V V V V V <| qM V V V ?_
  refine zH0 (fun h19 => ?_) (fun h19 => ?_)
  ·
   obtain ⟨t, rfl⟩ := one_of (by rw [zF] at h19; simp at h19; omega : s.length = 1)
   refine qF V V V zZ2 <| qL V V V V ta23 V <| qO V <| zI V zE0 sz9 (by decide) V V V (show _ = some (encX t) from V) ?_
   refine qO V <| zL V V ta9 V <| qO V <| zO3 V zL0 V <| qC V V V V V <| qP V V V V <| qM V V V ?_
   refine zH0 (fun h27 => ?_) (fun h27 => ?_)
   ·
    have h27n : t.length ≤ 16 := by simp at h27; omega
    refine qF V V V zX3 <| qL V V V V ta22 V <| qC V V V V V <| qM V V V ?_
    refine zH0 (fun h31 => ?_) (fun h31 => ?_)
    ·
     refine qS V <| qS V <| qS V <| qP V V V V <| qM V V V <| qT V V V V <| qS V <| qP V V V V <| qP V V V V <| qA V V V <| qN <| zH ?_
     exact zT (.inr V) zU4 V (.of_eq (by first | (rw [hF]; done) | (congr 1; rw [zP]; simp_all [isLastF]; done) | (congr 1; rw [zP]; simp_all [isLastF]; omega))) (.bool _) Vv
    ·
     have hn0 : n = 0 := by simp at h31; omega
     subst hn0
     refine qF V V V fo27_1 <| qL V V V V ta22 V <| qC V V V V V <| qP V V V V <| qM V V V ?_
     refine zH0 (fun h36 => ?_) (fun h36 => ?_)
     ·
      refine qT V V V V <| qS V <| qP V V V V <| qP V V V V <| qA V V V <| qN <| zH ?_
      exact zT (.inr V) zU4 V (.of_eq (by first | (rw [hF]; done) | (congr 1; rw [zP]; simp_all [isLastF]; done) | (congr 1; rw [zP]; simp_all [isLastF]; omega))) (.bool _) Vv
     ·
      have hm0 : m = 0 := by simp at h36; omega
      subst hm0
      refine qF V V V zZ2 <| qL V V V V ta23 V <| qO V <| zI V zE0 sz9 (by decide) V V V (show _ = some (encX t) from V) ?_
      refine qO V <| zL V V ta9 V <| qO V <| zB3 V V V V <| qP V V V V <| qP V V V V <| qA V V V <| qN <| zH ?_
      exact zT (.inr V) zU4 V (.of_eq (by first | (rw [hF]; done) | (congr 1; rw [zP]; simp_all [isLastF]; done) | (congr 1; rw [zP]; simp_all [isLastF]; omega))) (.bool _) Vv
   ·
    refine qT V V V V <| qT V V V V <| qT V V V V <| qS V <| qS V <| qS V <| qP V V V V <| qA V V V <| qN <| zH ?_
    exact zT (.inr V) zU4 V (.of_eq (by first | (rw [hF]; done) | (congr 1; rw [zP]; simp_all [isLastF]; done) | (congr 1; rw [zP]; simp_all [isLastF]; omega))) (.bool _) Vv
  ·
   have hF : isLastF n m s = false := last_no hs0 (fun e => by rw [zF, e] at h19; simp at h19)
   refine qT V V V V <| qS V <| qS V <| qP V V V V <| qM V V V <| qT V V V V <| qT V V V V <| qT V V V V <| qS V <| qS V <| qS V <| qP V V V V <| qA V V V <| qN ?_
   refine zH ?_
   exact zT (.inr V) zU4 V (.of_eq (by first | (rw [hF]; done) | (congr 1; rw [zP]; simp_all [isLastF]; done) | (congr 1; rw [zP]; simp_all [isLastF]; omega))) (.bool _) Vv
theorem _root_.zV4 : type_of% @Tryz.ntmps205 := @Tryz.ntmps205
theorem _root_.zE1 : type_of% @Tryz.results205 := @Tryz.results205
theorem bare_spec (k : Int) (hk : k = 1 ∨ k = 2 ∨ k = 3 ∨ k = 4 ∨ k = 5 ∨ k = 6 ∨ k = 7 ∨ k = 8) (n m : Int) (s : List Bs) (c : List (List Tk)) (w : List Val) (S : MS) : MCalls Tryz.prog 205 [.int .i64 k, encV (.mk n m s c w)] S fun v σ' => v = .bool (bareF k (.mk n m s c w)) ∧ σ' = S := by
 rcases hk with rfl | rfl | rfl | rfl | rfl | rfl | rfl | rfl
 ·
  refine zR zQ4 V zV4 (zA V) ?_
  refine zB <| qR V <| qB V V V V V <| qA V V V <| qN <| zB <| qR V <| qM V V V <| qC V V V V V <| qM V V V <| qS V <| qS V <| qP V V V V <| qM V V V <| qS V <| qS V <| qP V V V V <| qA V V V <| qN <| zB <| qR V ?_
  refine qM V V V <| qC V V V V V <| qM V V V <| qM V V V <| qC V V V V V <| qP V V V V <| qM V V V <| qM V V V <| qC V V V V V <| qP V V V V <| qA V V V <| qN <| zB <| qR V <| qM V V V <| qC V V V V V <| qM V V V ?_
  refine qM V V V <| qC V V V V V <| qP V V V V <| qA V V V <| qN <| zB <| qR V <| qM V V V <| qC V V V V V <| qM V V V <| qM V V V <| qC V V V V V <| qP V V V V <| qM V V V <| qM V V V <| qC V V V V V <| qP V V V V ?_
  refine qA V V V <| qN <| zB <| qR V <| qM V V V <| qM V V V <| qS V <| qS V <| qS V <| qP V V V V <| qM V V V <| qM V V V <| qC V V V V V <| qM V V V <| qF V V V fo27_1 <| qL V V V V ta22 V <| qC V V V V V <| qP V V V V ?_
  refine qP V V V V <| qM V V V ?_
  refine zH0 (fun h60 => ?_) (fun h60 => ?_)
  ·
   refine qM V V V <| qM V V V <| qF V V V zZ2 <| qL V V V V ta23 V <| qE V V zE0 V <| qC V V V V V <| qP V V V V <| qP V V V V <| qM V V V ?_
   refine zH0 (fun h69 => ?_) (fun h69 => ?_)
   ·
    refine qM V V V <| qM V V V <| qF V V V zO2 <| qL V V V V ta24 V <| qE V V zD0 V <| qC V V V V V <| qP V V V V <| qP V V V V <| qM V V V ?_
    refine zH0 (fun h78 => ?_) (fun h78 => ?_)
    ·
     refine qM V V V <| qM V V V <| qF V V V zG2 <| qL V V V V ta25 V <| qE V V zG0 V ?_
     try rw [zX0]
     refine qC V V V V V <| qP V V V V <| qP V V V V <| qA V V V <| qN <| zH ?_
     exact zT (.inr V) zE1 V (.of_eq (by congr 1; rw [zP]; simp_all [bareF, numsK, textsK, clocksK, valuesK, Val.nv, Val.mv, Val.sv, Val.cv, Val.vv])) (.bool _) Vv
    ·
     refine qT V V V V <| qS V <| qS V <| qS V <| qP V V V V <| qA V V V <| qN <| zH ?_
     exact zT (.inr V) zE1 V (.of_eq (by congr 1; rw [zP]; simp_all [bareF, numsK, textsK, clocksK, valuesK, Val.nv, Val.mv, Val.sv, Val.cv, Val.vv])) (.bool _) Vv
   ·
    refine qT V V V V <| qS V <| qS V <| qS V <| qP V V V V <| qM V V V <| qT V V V V <| qS V <| qS V <| qS V <| qP V V V V <| qA V V V <| qN <| zH ?_
    exact zT (.inr V) zE1 V (.of_eq (by congr 1; rw [zP]; simp_all [bareF, numsK, textsK, clocksK, valuesK, Val.nv, Val.mv, Val.sv, Val.cv, Val.vv])) (.bool _) Vv
  ·
   refine qT V V V V <| qS V <| qS V <| qS V <| qP V V V V <| qM V V V <| qT V V V V <| qS V <| qS V <| qS V <| qP V V V V <| qM V V V <| qT V V V V <| qS V <| qS V <| qS V <| qP V V V V ?_
   refine qA V V V <| qN <| zH ?_
   exact zT (.inr V) zE1 V (.of_eq (by congr 1; rw [zP]; simp_all [bareF, numsK, textsK, clocksK, valuesK, Val.nv, Val.mv, Val.sv, Val.cv, Val.vv])) (.bool _) Vv
 ·
  refine zR zQ4 V zV4 (zA V) ?_
  refine zB <| qR V <| qB V V V V V <| qA V V V <| qN <| zB <| qR V <| qM V V V <| qC V V V V V <| qM V V V <| qM V V V <| qC V V V V V <| qP V V V V <| qM V V V <| qS V <| qS V <| qP V V V V <| qA V V V <| qN ?_
  refine zB <| qR V <| qM V V V <| qC V V V V V <| qM V V V <| qM V V V <| qC V V V V V <| qP V V V V <| qM V V V <| qM V V V <| qC V V V V V <| qP V V V V <| qA V V V <| qN <| zB <| qR V <| qM V V V <| qC V V V V V ?_
  refine qM V V V <| qM V V V <| qC V V V V V <| qP V V V V <| qA V V V <| qN <| zB <| qR V <| qM V V V <| qC V V V V V <| qM V V V <| qM V V V <| qC V V V V V <| qP V V V V <| qM V V V <| qM V V V <| qC V V V V V ?_
  refine qP V V V V <| qA V V V <| qN <| zB <| qR V <| qM V V V <| qM V V V <| qS V <| qS V <| qS V <| qP V V V V <| qM V V V <| qM V V V <| qC V V V V V <| qM V V V <| qF V V V fo27_1 <| qL V V V V ta22 V <| qC V V V V V ?_
  refine qP V V V V <| qP V V V V <| qM V V V ?_
  refine zH0 (fun h60 => ?_) (fun h60 => ?_)
  ·
   refine qM V V V <| qM V V V <| qF V V V zZ2 <| qL V V V V ta23 V <| qE V V zE0 V <| qC V V V V V <| qP V V V V <| qP V V V V <| qM V V V ?_
   refine zH0 (fun h69 => ?_) (fun h69 => ?_)
   ·
    refine qM V V V <| qM V V V <| qF V V V zO2 <| qL V V V V ta24 V <| qE V V zD0 V <| qC V V V V V <| qP V V V V <| qP V V V V <| qM V V V ?_
    refine zH0 (fun h78 => ?_) (fun h78 => ?_)
    ·
     refine qM V V V <| qM V V V <| qF V V V zG2 <| qL V V V V ta25 V <| qE V V zG0 V ?_
     try rw [zX0]
     refine qC V V V V V <| qP V V V V <| qP V V V V <| qA V V V <| qN <| zH ?_
     exact zT (.inr V) zE1 V (.of_eq (by congr 1; rw [zP]; simp_all [bareF, numsK, textsK, clocksK, valuesK, Val.nv, Val.mv, Val.sv, Val.cv, Val.vv])) (.bool _) Vv
    ·
     refine qT V V V V <| qS V <| qS V <| qS V <| qP V V V V <| qA V V V <| qN <| zH ?_
     exact zT (.inr V) zE1 V (.of_eq (by congr 1; rw [zP]; simp_all [bareF, numsK, textsK, clocksK, valuesK, Val.nv, Val.mv, Val.sv, Val.cv, Val.vv])) (.bool _) Vv
   ·
    refine qT V V V V <| qS V <| qS V <| qS V <| qP V V V V <| qM V V V <| qT V V V V <| qS V <| qS V <| qS V <| qP V V V V <| qA V V V <| qN <| zH ?_
    exact zT (.inr V) zE1 V (.of_eq (by congr 1; rw [zP]; simp_all [bareF, numsK, textsK, clocksK, valuesK, Val.nv, Val.mv, Val.sv, Val.cv, Val.vv])) (.bool _) Vv
  ·
   refine qT V V V V <| qS V <| qS V <| qS V <| qP V V V V <| qM V V V <| qT V V V V <| qS V <| qS V <| qS V <| qP V V V V <| qM V V V <| qT V V V V <| qS V <| qS V <| qS V <| qP V V V V ?_
   refine qA V V V <| qN <| zH ?_
   exact zT (.inr V) zE1 V (.of_eq (by congr 1; rw [zP]; simp_all [bareF, numsK, textsK, clocksK, valuesK, Val.nv, Val.mv, Val.sv, Val.cv, Val.vv])) (.bool _) Vv
 ·
  refine zR zQ4 V zV4 (zA V) ?_
  refine zB <| qR V <| qB V V V V V <| qA V V V <| qN <| zB <| qR V <| qM V V V <| qC V V V V V <| qM V V V <| qM V V V <| qC V V V V V <| qP V V V V <| qM V V V <| qM V V V <| qC V V V V V <| qP V V V V <| qA V V V ?_
  refine qN <| zB <| qR V <| qM V V V <| qC V V V V V <| qM V V V <| qS V <| qS V <| qP V V V V <| qM V V V <| qS V <| qS V <| qP V V V V <| qA V V V <| qN <| zB <| qR V <| qM V V V <| qC V V V V V <| qM V V V ?_
  refine qM V V V <| qC V V V V V <| qP V V V V <| qA V V V <| qN <| zB <| qR V <| qM V V V <| qC V V V V V <| qM V V V <| qM V V V <| qC V V V V V <| qP V V V V <| qM V V V <| qM V V V <| qC V V V V V <| qP V V V V ?_
  refine qA V V V <| qN <| zB <| qR V <| qM V V V <| qM V V V <| qF V V V zX3 <| qL V V V V ta22 V <| qC V V V V V <| qP V V V V <| qM V V V ?_
  refine zH0 (fun h51 => ?_) (fun h51 => ?_)
  ·
   refine qM V V V <| qC V V V V V <| qM V V V <| qF V V V fo27_1 <| qL V V V V ta22 V <| qC V V V V V <| qP V V V V <| qP V V V V <| qM V V V ?_
   refine zH0 (fun h60 => ?_) (fun h60 => ?_)
   ·
    refine qM V V V <| qM V V V <| qT V V V V <| qP V V V V <| qP V V V V <| qM V V V <| qM V V V <| qM V V V <| qF V V V zO2 <| qL V V V V ta24 V <| qE V V zD0 V <| qC V V V V V <| qP V V V V <| qP V V V V ?_
    refine qM V V V ?_
    refine zH0 (fun h78 => ?_) (fun h78 => ?_)
    ·
     refine qM V V V <| qM V V V <| qF V V V zG2 <| qL V V V V ta25 V <| qE V V zG0 V ?_
     try rw [zX0]
     refine qC V V V V V <| qP V V V V <| qP V V V V <| qA V V V <| qN <| zH ?_
     exact zT (.inr V) zE1 V (.of_eq (by congr 1; rw [zP]; simp_all [bareF, numsK, textsK, clocksK, valuesK, Val.nv, Val.mv, Val.sv, Val.cv, Val.vv])) (.bool _) Vv
    ·
     refine qT V V V V <| qS V <| qS V <| qS V <| qP V V V V <| qA V V V <| qN <| zH ?_
     exact zT (.inr V) zE1 V (.of_eq (by congr 1; rw [zP]; simp_all [bareF, numsK, textsK, clocksK, valuesK, Val.nv, Val.mv, Val.sv, Val.cv, Val.vv])) (.bool _) Vv
   ·
    refine qT V V V V <| qS V <| qS V <| qS V <| qP V V V V <| qM V V V <| qT V V V V <| qS V <| qS V <| qS V <| qP V V V V <| qM V V V <| qT V V V V <| qS V <| qS V <| qS V <| qP V V V V ?_
    refine qA V V V <| qN <| zH ?_
    exact zT (.inr V) zE1 V (.of_eq (by congr 1; rw [zP]; simp_all [bareF, numsK, textsK, clocksK, valuesK, Val.nv, Val.mv, Val.sv, Val.cv, Val.vv])) (.bool _) Vv
  ·
   refine qT V V V V <| qS V <| qS V <| qS V <| qP V V V V <| qM V V V <| qT V V V V <| qS V <| qS V <| qS V <| qP V V V V <| qM V V V <| qT V V V V <| qS V <| qS V <| qS V <| qP V V V V ?_
   refine qM V V V <| qT V V V V <| qS V <| qS V <| qS V <| qP V V V V <| qA V V V <| qN <| zH ?_
   exact zT (.inr V) zE1 V (.of_eq (by congr 1; rw [zP]; simp_all [bareF, numsK, textsK, clocksK, valuesK, Val.nv, Val.mv, Val.sv, Val.cv, Val.vv])) (.bool _) Vv
 ·
  refine zR zQ4 V zV4 (zA V) ?_
  refine zB <| qR V <| qB V V V V V <| qA V V V <| qN <| zB <| qR V <| qM V V V <| qC V V V V V <| qM V V V <| qM V V V <| qC V V V V V <| qP V V V V <| qM V V V <| qM V V V <| qC V V V V V <| qP V V V V <| qA V V V ?_
  refine qN <| zB <| qR V <| qM V V V <| qC V V V V V <| qM V V V <| qM V V V <| qC V V V V V <| qP V V V V <| qM V V V <| qS V <| qS V <| qP V V V V <| qA V V V <| qN <| zB <| qR V <| qM V V V <| qC V V V V V ?_
  refine qM V V V <| qM V V V <| qC V V V V V <| qP V V V V <| qA V V V <| qN <| zB <| qR V <| qM V V V <| qC V V V V V <| qM V V V <| qS V <| qS V <| qP V V V V <| qM V V V <| qS V <| qS V <| qP V V V V <| qA V V V ?_
  refine qN <| zB <| qR V <| qM V V V <| qM V V V <| qF V V V zX3 <| qL V V V V ta22 V <| qC V V V V V <| qP V V V V <| qM V V V ?_
  refine zH0 (fun h51 => ?_) (fun h51 => ?_)
  ·
   refine qM V V V <| qC V V V V V <| qM V V V <| qF V V V fo27_1 <| qL V V V V ta22 V <| qC V V V V V <| qP V V V V <| qP V V V V <| qM V V V ?_
   refine zH0 (fun h60 => ?_) (fun h60 => ?_)
   ·
    refine qM V V V <| qM V V V <| qT V V V V <| qP V V V V <| qP V V V V <| qM V V V <| qM V V V <| qM V V V <| qF V V V zO2 <| qL V V V V ta24 V <| qE V V zD0 V <| qC V V V V V <| qP V V V V <| qP V V V V ?_
    refine qM V V V ?_
    refine zH0 (fun h78 => ?_) (fun h78 => ?_)
    ·
     refine qM V V V <| qM V V V <| qT V V V V <| qP V V V V <| qP V V V V <| qA V V V <| qN <| zH ?_
     exact zT (.inr V) zE1 V (.of_eq (by congr 1; rw [zP]; simp_all [bareF, numsK, textsK, clocksK, valuesK, Val.nv, Val.mv, Val.sv, Val.cv, Val.vv])) (.bool _) Vv
    ·
     refine qT V V V V <| qS V <| qS V <| qS V <| qP V V V V <| qA V V V <| qN <| zH ?_
     exact zT (.inr V) zE1 V (.of_eq (by congr 1; rw [zP]; simp_all [bareF, numsK, textsK, clocksK, valuesK, Val.nv, Val.mv, Val.sv, Val.cv, Val.vv])) (.bool _) Vv
   ·
    refine qT V V V V <| qS V <| qS V <| qS V <| qP V V V V <| qM V V V <| qT V V V V <| qS V <| qS V <| qS V <| qP V V V V <| qM V V V <| qT V V V V <| qS V <| qS V <| qS V <| qP V V V V ?_
    refine qA V V V <| qN <| zH ?_
    exact zT (.inr V) zE1 V (.of_eq (by congr 1; rw [zP]; simp_all [bareF, numsK, textsK, clocksK, valuesK, Val.nv, Val.mv, Val.sv, Val.cv, Val.vv])) (.bool _) Vv
  ·
   refine qT V V V V <| qS V <| qS V <| qS V <| qP V V V V <| qM V V V <| qT V V V V <| qS V <| qS V <| qS V <| qP V V V V <| qM V V V <| qT V V V V <| qS V <| qS V <| qS V <| qP V V V V ?_
   refine qM V V V <| qT V V V V <| qS V <| qS V <| qS V <| qP V V V V <| qA V V V <| qN <| zH ?_
   exact zT (.inr V) zE1 V (.of_eq (by congr 1; rw [zP]; simp_all [bareF, numsK, textsK, clocksK, valuesK, Val.nv, Val.mv, Val.sv, Val.cv, Val.vv])) (.bool _) Vv
 ·
  refine zR zQ4 V zV4 (zA V) ?_
  refine zB <| qR V <| qB V V V V V <| qA V V V <| qN <| zB <| qR V <| qM V V V <| qC V V V V V <| qM V V V <| qM V V V <| qC V V V V V <| qP V V V V <| qM V V V <| qM V V V <| qC V V V V V <| qP V V V V <| qA V V V ?_
  refine qN <| zB <| qR V <| qM V V V <| qC V V V V V <| qM V V V <| qM V V V <| qC V V V V V <| qP V V V V <| qM V V V <| qM V V V <| qC V V V V V <| qP V V V V <| qA V V V <| qN <| zB <| qR V <| qM V V V ?_
  refine qC V V V V V <| qM V V V <| qM V V V <| qC V V V V V <| qP V V V V <| qA V V V <| qN <| zB <| qR V <| qM V V V <| qC V V V V V <| qM V V V <| qM V V V <| qC V V V V V <| qP V V V V <| qM V V V <| qS V ?_
  refine qS V <| qP V V V V <| qA V V V <| qN <| zB <| qR V <| qM V V V <| qM V V V <| qF V V V zX3 <| qL V V V V ta22 V <| qC V V V V V <| qP V V V V <| qM V V V ?_
  refine zH0 (fun h51 => ?_) (fun h51 => ?_)
  ·
   refine qM V V V <| qC V V V V V <| qM V V V <| qF V V V fo27_1 <| qL V V V V ta22 V <| qC V V V V V <| qP V V V V <| qP V V V V <| qM V V V ?_
   refine zH0 (fun h60 => ?_) (fun h60 => ?_)
   ·
    refine qM V V V <| qM V V V <| qF V V V zZ2 <| qL V V V V ta23 V <| qE V V zE0 V <| qC V V V V V <| qP V V V V <| qP V V V V <| qM V V V ?_
    refine zH0 (fun h69 => ?_) (fun h69 => ?_)
    ·
     refine qM V V V <| qM V V V <| qF V V V zO2 <| qL V V V V ta24 V <| qE V V zD0 V <| qC V V V V V <| qP V V V V <| qP V V V V <| qM V V V ?_
     refine zH0 (fun h78 => ?_) (fun h78 => ?_)
     ·
      refine qM V V V <| qM V V V <| qT V V V V <| qP V V V V <| qP V V V V <| qA V V V <| qN <| zH ?_
      exact zT (.inr V) zE1 V (.of_eq (by congr 1; rw [zP]; simp_all [bareF, numsK, textsK, clocksK, valuesK, Val.nv, Val.mv, Val.sv, Val.cv, Val.vv])) (.bool _) Vv
     ·
      refine qT V V V V <| qS V <| qS V <| qS V <| qP V V V V <| qA V V V <| qN <| zH ?_
      exact zT (.inr V) zE1 V (.of_eq (by congr 1; rw [zP]; simp_all [bareF, numsK, textsK, clocksK, valuesK, Val.nv, Val.mv, Val.sv, Val.cv, Val.vv])) (.bool _) Vv
    ·
     refine qT V V V V <| qS V <| qS V <| qS V <| qP V V V V <| qM V V V <| qT V V V V <| qS V <| qS V <| qS V <| qP V V V V <| qA V V V <| qN <| zH ?_
     exact zT (.inr V) zE1 V (.of_eq (by congr 1; rw [zP]; simp_all [bareF, numsK, textsK, clocksK, valuesK, Val.nv, Val.mv, Val.sv, Val.cv, Val.vv])) (.bool _) Vv
   ·
    refine qT V V V V <| qS V <| qS V <| qS V <| qP V V V V <| qM V V V <| qT V V V V <| qS V <| qS V <| qS V <| qP V V V V <| qM V V V <| qT V V V V <| qS V <| qS V <| qS V <| qP V V V V ?_
    refine qA V V V <| qN <| zH ?_
    exact zT (.inr V) zE1 V (.of_eq (by congr 1; rw [zP]; simp_all [bareF, numsK, textsK, clocksK, valuesK, Val.nv, Val.mv, Val.sv, Val.cv, Val.vv])) (.bool _) Vv
  ·
   refine qT V V V V <| qS V <| qS V <| qS V <| qP V V V V <| qM V V V <| qT V V V V <| qS V <| qS V <| qS V <| qP V V V V <| qM V V V <| qT V V V V <| qS V <| qS V <| qS V <| qP V V V V ?_
   refine qM V V V <| qT V V V V <| qS V <| qS V <| qS V <| qP V V V V <| qA V V V <| qN <| zH ?_
   exact zT (.inr V) zE1 V (.of_eq (by congr 1; rw [zP]; simp_all [bareF, numsK, textsK, clocksK, valuesK, Val.nv, Val.mv, Val.sv, Val.cv, Val.vv])) (.bool _) Vv
 ·
  refine zR zQ4 V zV4 (zA V) ?_
  refine zB <| qR V <| qB V V V V V <| qA V V V <| qN <| zB <| qR V <| qM V V V <| qC V V V V V <| qM V V V <| qM V V V <| qC V V V V V <| qP V V V V <| qM V V V <| qM V V V <| qC V V V V V <| qP V V V V <| qA V V V ?_
  refine qN <| zB <| qR V <| qM V V V <| qC V V V V V <| qM V V V <| qM V V V <| qC V V V V V <| qP V V V V <| qM V V V <| qM V V V <| qC V V V V V <| qP V V V V <| qA V V V <| qN <| zB <| qR V <| qM V V V ?_
  refine qC V V V V V <| qM V V V <| qM V V V <| qC V V V V V <| qP V V V V <| qA V V V <| qN <| zB <| qR V <| qM V V V <| qC V V V V V <| qM V V V <| qM V V V <| qC V V V V V <| qP V V V V <| qM V V V <| qM V V V ?_
  refine qC V V V V V <| qP V V V V <| qA V V V <| qN <| zB <| qR V <| qM V V V <| qM V V V <| qS V <| qS V <| qS V <| qP V V V V <| qM V V V <| qM V V V <| qC V V V V V <| qM V V V <| qS V <| qS V <| qS V <| qP V V V V ?_
  refine qP V V V V <| qM V V V <| qM V V V <| qM V V V <| qT V V V V <| qP V V V V <| qP V V V V <| qM V V V <| qM V V V <| qM V V V <| qF V V V zO2 <| qL V V V V ta24 V <| qE V V zD0 V <| qC V V V V V ?_
  refine qP V V V V <| qP V V V V <| qM V V V ?_
  refine zH0 (fun h78 => ?_) (fun h78 => ?_)
  ·
   refine qM V V V <| qM V V V <| qF V V V zG2 <| qL V V V V ta25 V <| qE V V zG0 V ?_
   try rw [zX0]
   refine qC V V V V V <| qP V V V V <| qP V V V V <| qA V V V <| qN <| zH ?_
   exact zT (.inr V) zE1 V (.of_eq (by congr 1; rw [zP]; simp_all [bareF, numsK, textsK, clocksK, valuesK, Val.nv, Val.mv, Val.sv, Val.cv, Val.vv])) (.bool _) Vv
  ·
   refine qT V V V V <| qS V <| qS V <| qS V <| qP V V V V <| qA V V V <| qN <| zH ?_
   exact zT (.inr V) zE1 V (.of_eq (by congr 1; rw [zP]; simp_all [bareF, numsK, textsK, clocksK, valuesK, Val.nv, Val.mv, Val.sv, Val.cv, Val.vv])) (.bool _) Vv
 ·
  refine zR zQ4 V zV4 (zA V) ?_
  refine zB <| qR V <| qB V V V V V <| qA V V V <| qN <| zB <| qR V <| qM V V V <| qC V V V V V <| qM V V V <| qM V V V <| qC V V V V V <| qP V V V V <| qM V V V <| qM V V V <| qC V V V V V <| qP V V V V <| qA V V V ?_
  refine qN <| zB <| qR V <| qM V V V <| qC V V V V V <| qM V V V <| qM V V V <| qC V V V V V <| qP V V V V <| qM V V V <| qM V V V <| qC V V V V V <| qP V V V V <| qA V V V <| qN <| zB <| qR V <| qM V V V ?_
  refine qC V V V V V <| qM V V V <| qS V <| qS V <| qP V V V V <| qA V V V <| qN <| zB <| qR V <| qM V V V <| qC V V V V V <| qM V V V <| qM V V V <| qC V V V V V <| qP V V V V <| qM V V V <| qM V V V <| qC V V V V V ?_
  refine qP V V V V <| qA V V V <| qN <| zB <| qR V <| qM V V V <| qM V V V <| qF V V V zX3 <| qL V V V V ta22 V <| qC V V V V V <| qP V V V V <| qM V V V ?_
  refine zH0 (fun h51 => ?_) (fun h51 => ?_)
  ·
   refine qM V V V <| qC V V V V V <| qM V V V <| qF V V V fo27_1 <| qL V V V V ta22 V <| qC V V V V V <| qP V V V V <| qP V V V V <| qM V V V ?_
   refine zH0 (fun h60 => ?_) (fun h60 => ?_)
   ·
    refine qM V V V <| qM V V V <| qF V V V zZ2 <| qL V V V V ta23 V <| qE V V zE0 V <| qC V V V V V <| qP V V V V <| qP V V V V <| qM V V V ?_
    refine zH0 (fun h69 => ?_) (fun h69 => ?_)
    ·
     refine qM V V V <| qM V V V <| qT V V V V <| qP V V V V <| qP V V V V <| qM V V V <| qM V V V <| qM V V V <| qF V V V zG2 <| qL V V V V ta25 V <| qE V V zG0 V ?_
     try rw [zX0]
     refine qC V V V V V <| qP V V V V <| qP V V V V <| qA V V V <| qN <| zH ?_
     exact zT (.inr V) zE1 V (.of_eq (by congr 1; rw [zP]; simp_all [bareF, numsK, textsK, clocksK, valuesK, Val.nv, Val.mv, Val.sv, Val.cv, Val.vv])) (.bool _) Vv
    ·
     refine qT V V V V <| qS V <| qS V <| qS V <| qP V V V V <| qM V V V <| qT V V V V <| qS V <| qS V <| qS V <| qP V V V V <| qA V V V <| qN <| zH ?_
     exact zT (.inr V) zE1 V (.of_eq (by congr 1; rw [zP]; simp_all [bareF, numsK, textsK, clocksK, valuesK, Val.nv, Val.mv, Val.sv, Val.cv, Val.vv])) (.bool _) Vv
   ·
    refine qT V V V V <| qS V <| qS V <| qS V <| qP V V V V <| qM V V V <| qT V V V V <| qS V <| qS V <| qS V <| qP V V V V <| qM V V V <| qT V V V V <| qS V <| qS V <| qS V <| qP V V V V ?_
    refine qA V V V <| qN <| zH ?_
    exact zT (.inr V) zE1 V (.of_eq (by congr 1; rw [zP]; simp_all [bareF, numsK, textsK, clocksK, valuesK, Val.nv, Val.mv, Val.sv, Val.cv, Val.vv])) (.bool _) Vv
  ·
   refine qT V V V V <| qS V <| qS V <| qS V <| qP V V V V <| qM V V V <| qT V V V V <| qS V <| qS V <| qS V <| qP V V V V <| qM V V V <| qT V V V V <| qS V <| qS V <| qS V <| qP V V V V ?_
   refine qM V V V <| qT V V V V <| qS V <| qS V <| qS V <| qP V V V V <| qA V V V <| qN <| zH ?_
   exact zT (.inr V) zE1 V (.of_eq (by congr 1; rw [zP]; simp_all [bareF, numsK, textsK, clocksK, valuesK, Val.nv, Val.mv, Val.sv, Val.cv, Val.vv])) (.bool _) Vv
 ·
  refine zR zQ4 V zV4 (zA V) ?_
  refine zB <| qR V <| qB V V V V V <| qA V V V <| qN <| zB <| qR V <| qM V V V <| qC V V V V V <| qM V V V <| qM V V V <| qC V V V V V <| qP V V V V <| qM V V V <| qM V V V <| qC V V V V V <| qP V V V V <| qA V V V ?_
  refine qN <| zB <| qR V <| qM V V V <| qC V V V V V <| qM V V V <| qM V V V <| qC V V V V V <| qP V V V V <| qM V V V <| qM V V V <| qC V V V V V <| qP V V V V <| qA V V V <| qN <| zB <| qR V <| qM V V V ?_
  refine qC V V V V V <| qM V V V <| qM V V V <| qC V V V V V <| qP V V V V <| qA V V V <| qN <| zB <| qR V <| qM V V V <| qC V V V V V <| qM V V V <| qM V V V <| qC V V V V V <| qP V V V V <| qM V V V <| qM V V V ?_
  refine qC V V V V V <| qP V V V V <| qA V V V <| qN <| zB <| qR V <| qM V V V <| qM V V V <| qF V V V zX3 <| qL V V V V ta22 V <| qC V V V V V <| qP V V V V <| qM V V V ?_
  refine zH0 (fun h51 => ?_) (fun h51 => ?_)
  ·
   refine qM V V V <| qC V V V V V <| qM V V V <| qF V V V fo27_1 <| qL V V V V ta22 V <| qC V V V V V <| qP V V V V <| qP V V V V <| qM V V V ?_
   refine zH0 (fun h60 => ?_) (fun h60 => ?_)
   ·
    refine qM V V V <| qM V V V <| qF V V V zZ2 <| qL V V V V ta23 V <| qE V V zE0 V <| qC V V V V V <| qP V V V V <| qP V V V V <| qM V V V ?_
    refine zH0 (fun h69 => ?_) (fun h69 => ?_)
    ·
     refine qM V V V <| qM V V V <| qT V V V V <| qP V V V V <| qP V V V V <| qM V V V <| qM V V V <| qM V V V <| qT V V V V <| qP V V V V <| qP V V V V <| qA V V V <| qN <| zH ?_
     exact zT (.inr V) zE1 V (.of_eq (by congr 1; rw [zP]; simp_all [bareF, numsK, textsK, clocksK, valuesK, Val.nv, Val.mv, Val.sv, Val.cv, Val.vv])) (.bool _) Vv
    ·
     refine qT V V V V <| qS V <| qS V <| qS V <| qP V V V V <| qM V V V <| qT V V V V <| qS V <| qS V <| qS V <| qP V V V V <| qA V V V <| qN <| zH ?_
     exact zT (.inr V) zE1 V (.of_eq (by congr 1; rw [zP]; simp_all [bareF, numsK, textsK, clocksK, valuesK, Val.nv, Val.mv, Val.sv, Val.cv, Val.vv])) (.bool _) Vv
   ·
    refine qT V V V V <| qS V <| qS V <| qS V <| qP V V V V <| qM V V V <| qT V V V V <| qS V <| qS V <| qS V <| qP V V V V <| qM V V V <| qT V V V V <| qS V <| qS V <| qS V <| qP V V V V ?_
    refine qA V V V <| qN <| zH ?_
    exact zT (.inr V) zE1 V (.of_eq (by congr 1; rw [zP]; simp_all [bareF, numsK, textsK, clocksK, valuesK, Val.nv, Val.mv, Val.sv, Val.cv, Val.vv])) (.bool _) Vv
  ·
   refine qT V V V V <| qS V <| qS V <| qS V <| qP V V V V <| qM V V V <| qT V V V V <| qS V <| qS V <| qS V <| qP V V V V <| qM V V V <| qT V V V V <| qS V <| qS V <| qS V <| qP V V V V ?_
   refine qM V V V <| qT V V V V <| qS V <| qS V <| qS V <| qP V V V V <| qA V V V <| qN <| zH ?_
   exact zT (.inr V) zE1 V (.of_eq (by congr 1; rw [zP]; simp_all [bareF, numsK, textsK, clocksK, valuesK, Val.nv, Val.mv, Val.sv, Val.cv, Val.vv])) (.bool _) Vv
theorem _root_.zT5 : type_of% @bare_spec := @bare_spec
theorem is1v_spec (k k1 : Int) (i1 rest : List Sch) (f : Val → Bool) (ih : ∀ x, okV x → ∀ S : MS, MCalls Tryz.prog 165 [encS (.mk k1 i1), encV x] S fun v σ' => v = .bool (f x) ∧ σ' = S) (x : Val) (hx : okV x) (id : Nat) (S : MS) (hS : S[id]? = some (.cells [.int .i64 k, .lst none 2 (encSs (.mk k1 i1 :: rest))])) : MCalls Tryz.prog 206 [encV x, .ref id 0] S fun v σ' => v = .bool (f x) ∧ σ' = S := by
 obtain ⟨n, m, s, c, w⟩ := x
 refine zR Tryz.func206 V Tryz.ntmps206 (zA V) ?_
 refine zB <| qR V <| qB V V V V V <| qA V V V <| qN <| zB ?_
 refine zW0 [] [_] mo (by decide) V V V V ?_
 refine dO V V V (zG V V zG3 Vv) <| dO V V V (zA2 V V hS ta51 V Vv) <| dO V V V (zI V zO0 sz53 (by decide) V V V (show _ = some (encS (.mk k1 i1)) from V) Vv) ?_
 refine dO V V V (zL V V ta53 V Vv) <| dO V V V (zN0 V V V ta27 V Vv) <| zN V V (.cons (zT0 V V V co165 (ih (.mk n m s c w) hx _)) .nil) <| dO V V V (zZ0 V V Vv) <| zQ0 <| zH ?_
 exact zT (.inr V) Tryz.results206 V (.of_eq (V)) (.bool _) Vv
theorem is2v_spec (k k1 : Int) (i1 rest : List Sch) (f : Val → Bool) (ih : ∀ x, okV x → ∀ S : MS, MCalls Tryz.prog 165 [encS (.mk k1 i1), encV x] S fun v σ' => v = .bool (f x) ∧ σ' = S) (x : Val) (hx : okV x) (ida ids : Nat) (S : MS) (hA : S[ida]? = some (.cells [.fn (.func 206) [] [.ref ids 0]])) (hS : S[ids]? = some (.cells [.int .i64 k, .lst none 2 (encSs (.mk k1 i1 :: rest))])) : MCalls Tryz.prog 209 [encV x, .ref ida 0, .ref ids 0] S fun v σ' => v = .bool (!f x || noneF (.mk k1 i1) x) ∧ σ' = S := by
 obtain ⟨n, m, s, c, w⟩ := x
 refine zR Tryz.func209 V Tryz.ntmps209 (zA V) ?_
 refine zB <| qR V <| qB V V V V V <| qA V V V <| qN <| zB ?_
 refine zW0 [] [_] mo (by decide) V V V V ?_
 refine zN V V (.cons (zA2 V V hA ta286 V Vv) .nil) ?_
 refine dO V V V (zN0 V V V ta27 V Vv) <| zN V V (.cons (zT0 V V V co206 (is1v_spec k k1 i1 rest f ih (.mk n m s c w) hx ids _ (zQ hS))) .nil) <| dO V V V (zF1 V V Vv) <| dO V V V (zY V V Vv) ?_
 refine zR3 (fun h9 => ?_) (fun h9 => ?_)
 ·
  refine dS V V <| dS V V <| dS V V <| dS V V <| dS V V <| dS V V <| dO V V V (zP1 V V V Vv) <| dO V V V (zZ0 V V Vv) <| zQ0 <| zH ?_
  exact zT (.inr V) Tryz.results209 V (.of_eq (by simp_all)) (.bool _) Vv
 ·
  refine dO V V V (zG V V zG3 Vv) <| dO V V V (zA2 V V hS ta51 V Vv) <| dO V V V (zI V zO0 sz53 (by decide) V V V (show _ = some (encS (.mk k1 i1)) from V) Vv) ?_
  refine dO V V V (zL V V ta53 V Vv) <| dO V V V (zN0 V V V ta27 V Vv) <| zN V V (.cons (zT0 V V V co119 (None_spec (.mk k1 i1) (.mk n m s c w) _)) .nil) <| dO V V V (zP1 V V V Vv) <| dO V V V (zZ0 V V Vv) <| zQ0 <| zH ?_
  exact zT (.inr V) Tryz.results209 V (.of_eq (by simp_all)) (.bool _) Vv
theorem is3v_spec (k k1 : Int) (i1 rest : List Sch) (f : Val → Bool) (ih : ∀ x, okV x → ∀ S : MS, MCalls Tryz.prog 165 [encS (.mk k1 i1), encV x] S fun v σ' => v = .bool (f x) ∧ σ' = S) (x : Val) (hx : okV x) (ida ids : Nat) (S : MS) (hA : S[ida]? = some (.cells [.fn (.func 206) [] [.ref ids 0]])) (hS : S[ids]? = some (.cells [.int .i64 k, .lst none 2 (encSs (.mk k1 i1 :: rest))])) : MCalls Tryz.prog 213 [encV x, .ref ida 0] S fun v σ' => v = .bool (!f x) ∧ σ' = S := by
 obtain ⟨n, m, s, c, w⟩ := x
 refine zR Tryz.func213 V Tryz.ntmps213 (zA V) ?_
 refine zB <| qR V <| qB V V V V V <| qA V V V <| qN <| zB <| qR V <| qO V <| zA2 V V hA ta286 V <| qL V V V V ta27 V ?_
 refine qX V V V V co206 (is1v_spec k k1 i1 rest f ih (.mk n m s c w) hx ids _ (zQ hS)) ?_
 refine qO V <| zF1 V V <| qA V V V <| qN <| zH ?_
 exact zT (.inr V) Tryz.results213 V (.of_eq (V)) (.bool _) Vv
theorem _root_.zW4 : type_of% @Tryz.ntmps165 := @Tryz.ntmps165
theorem _root_.zU0 : type_of% @Tryz.results165 := @Tryz.results165
theorem isV_spec (d : Nat) : ∀ (s : Sch), isF d s = true → ∀ x : Val, okV x → ∀ S : MS, MCalls Tryz.prog 165 [encS s, encV x] S fun v σ' => v = .bool (isVF s x) ∧ σ' = S := by
 induction d with
 | zero => intro s h; simp [isF] at h
 | succ d ih =>
 rintro ⟨k, ins⟩ hd ⟨n, m, s, c, w⟩ hv S
 rw [isF] at hd
 simp only [Bool.and_eq_true, List.all_eq_true, beq_iff_eq] at hd
 simp only [okV] at hv
 have hvs := okVs_iff.1 hv.2.2.2
 rcases k8_of hd.1 with rfl | rfl | rfl | rfl | rfl | rfl | rfl | rfl
 ·
  refine zR zP4 V zW4 (zA V) ?_
  refine zB <| qR V <| qB V V V V V <| qB V V V V V <| qA V V V <| qN <| zB <| zB <| qR V <| qF V V V zB2 <| qL V V V V ta3 V <| qL V V V V ta27 V ?_
  refine qX V V V V co205 (zT5 1 (by omega) n m s c w _) ?_
  refine qO V <| zF1 V V <| qM V V V ?_
  refine zH0 (fun h11 => ?_) (fun h11 => ?_)
  ·
   refine qT V V V V <| qP V V V V <| qM V V V <| qT V V V V <| qP V V V V <| qN <| zU V (V) <| zB <| qR V <| qA V V V <| qN <| zH ?_
   exact zT (.inr V) zU0 V (.of_eq (by rw [zY1 1]; congr 1; symm; first | (rw [show bareF 1 _ = false by simpa using h11]; rfl) | (rw [w40f]; simp; done) | (rw [c40f]; simp; done))) (.bool _) Vv
  ·
   refine qF V V V zG2 <| qL V V V V ta25 V <| qE V V zG0 V <| qC V V V V V <| qP V V V V <| qM V V V ?_
   refine zH0 (fun h17 => ?_) (fun h17 => ?_)
   ·
    have w40f := decide_eq_false (by rw [zX0] at h17; simp at h17; omega : ¬ w.length ≤ 40)
    refine qT V V V V <| qP V V V V <| qN <| zU V (V) <| zB <| qR V <| qA V V V <| qN <| zH ?_
    exact zT (.inr V) zU0 V (.of_eq (by rw [zY1 1]; congr 1; symm; first | (rw [show bareF 1 _ = false by simpa using h11]; rfl) | (rw [w40f]; simp; done) | (rw [c40f]; simp; done))) (.bool _) Vv
   ·
    have w40t := decide_eq_true (by rw [zX0] at h17; simp at h17; omega : w.length ≤ 40)
    refine qF V V V zO2 <| qL V V V V ta24 V <| qE V V zD0 V <| qC V V V V V <| qP V V V V <| qN ?_
    refine zM V (fun h22 => ?_) (fun h22 => ?_)
    ·
     have c40f := decide_eq_false (by rw [zF] at h22; simp at h22; omega : ¬ c.length ≤ 40)
     refine zB <| qR V <| qA V V V <| qN <| zH ?_
     exact zT (.inr V) zU0 V (.of_eq (by rw [zY1 1]; congr 1; symm; first | (rw [show bareF 1 _ = false by simpa using h11]; rfl) | (rw [w40f]; simp; done) | (rw [c40f]; simp; done))) (.bool _) Vv
    ·
     have c40t := decide_eq_true (by rw [zF] at h22; simp at h22; omega : c.length ≤ 40)
     refine zX <| zB <| qR V <| qO V <| zI2 V V V <| qO V <| zM0 V zm286 V V <| qO V <| zZ V V V V sz286 V V (zA V) V <| qN <| zB <| zB <| qR V <| qF V V V zB2 <| qL V V V V ta3 V <| qN <| zB0 <| zB <| qR V <| qC V V V V V <| qA V V V <| qN <| zU V (V) <| zB <| qR V <| qA V V V ?_
     refine qN <| zH ?_
     exact zT (.inr V) zU0 V (.of_eq (by rw [zY1 1]; rw [show bareF 1 _ = true by simpa using h11, w40t, c40t]; simp only [Bool.true_and, isVL, List.headD_cons, List.tail_cons]; rfl)) (.bool _) Vv
 ·
  refine zR zP4 V zW4 (zA V) ?_
  refine zB <| qR V <| qB V V V V V <| qB V V V V V <| qA V V V <| qN <| zB <| zB <| qR V <| qF V V V zB2 <| qL V V V V ta3 V <| qL V V V V ta27 V ?_
  refine qX V V V V co205 (zT5 2 (by omega) n m s c w _) ?_
  refine qO V <| zF1 V V <| qM V V V ?_
  refine zH0 (fun h11 => ?_) (fun h11 => ?_)
  ·
   refine qT V V V V <| qP V V V V <| qM V V V <| qT V V V V <| qP V V V V <| qN <| zU V (V) <| zB <| qR V <| qA V V V <| qN <| zH ?_
   exact zT (.inr V) zU0 V (.of_eq (by rw [zY1 2]; congr 1; symm; first | (rw [show bareF 2 _ = false by simpa using h11]; rfl) | (rw [w40f]; simp; done) | (rw [c40f]; simp; done))) (.bool _) Vv
  ·
   refine qF V V V zG2 <| qL V V V V ta25 V <| qE V V zG0 V <| qC V V V V V <| qP V V V V <| qM V V V ?_
   refine zH0 (fun h17 => ?_) (fun h17 => ?_)
   ·
    have w40f := decide_eq_false (by rw [zX0] at h17; simp at h17; omega : ¬ w.length ≤ 40)
    refine qT V V V V <| qP V V V V <| qN <| zU V (V) <| zB <| qR V <| qA V V V <| qN <| zH ?_
    exact zT (.inr V) zU0 V (.of_eq (by rw [zY1 2]; congr 1; symm; first | (rw [show bareF 2 _ = false by simpa using h11]; rfl) | (rw [w40f]; simp; done) | (rw [c40f]; simp; done))) (.bool _) Vv
   ·
    have w40t := decide_eq_true (by rw [zX0] at h17; simp at h17; omega : w.length ≤ 40)
    refine qF V V V zO2 <| qL V V V V ta24 V <| qE V V zD0 V <| qC V V V V V <| qP V V V V <| qN ?_
    refine zM V (fun h22 => ?_) (fun h22 => ?_)
    ·
     have c40f := decide_eq_false (by rw [zF] at h22; simp at h22; omega : ¬ c.length ≤ 40)
     refine zB <| qR V <| qA V V V <| qN <| zH ?_
     exact zT (.inr V) zU0 V (.of_eq (by rw [zY1 2]; congr 1; symm; first | (rw [show bareF 2 _ = false by simpa using h11]; rfl) | (rw [w40f]; simp; done) | (rw [c40f]; simp; done))) (.bool _) Vv
    ·
     have c40t := decide_eq_true (by rw [zF] at h22; simp at h22; omega : c.length ≤ 40)
     refine zX <| zB <| qR V <| qO V <| zI2 V V V <| qO V <| zM0 V zm286 V V <| qO V <| zZ V V V V sz286 V V (zA V) V <| qN <| zB <| zB <| qR V <| qF V V V zB2 <| qL V V V V ta3 V <| qN <| zB0 <| zB <| qR V <| qC V V V V V <| qA V V V <| qN <| zK V (V) <| zB <| qR V <| qC V V V V V ?_
     refine qA V V V <| qN <| zU V (V) <| zB <| qR V <| qF V V V zX3 <| qL V V V V ta22 V <| qC V V V V V <| qA V V V <| qN <| zH ?_
     exact zT (.inr V) zU0 V (.of_eq (by rw [zY1 2]; rw [show bareF 2 _ = true by simpa using h11, w40t, c40t]; simp only [Bool.true_and, isVL, List.headD_cons, List.tail_cons]; rfl)) (.bool _) Vv
 ·
  refine zR zP4 V zW4 (zA V) ?_
  refine zB <| qR V <| qB V V V V V <| qB V V V V V <| qA V V V <| qN <| zB <| zB <| qR V <| qF V V V zB2 <| qL V V V V ta3 V <| qL V V V V ta27 V ?_
  refine qX V V V V co205 (zT5 3 (by omega) n m s c w _) ?_
  refine qO V <| zF1 V V <| qM V V V ?_
  refine zH0 (fun h11 => ?_) (fun h11 => ?_)
  ·
   refine qT V V V V <| qP V V V V <| qM V V V <| qT V V V V <| qP V V V V <| qN <| zU V (V) <| zB <| qR V <| qA V V V <| qN <| zH ?_
   exact zT (.inr V) zU0 V (.of_eq (by rw [zY1 3]; congr 1; symm; first | (rw [show bareF 3 _ = false by simpa using h11]; rfl) | (rw [w40f]; simp; done) | (rw [c40f]; simp; done))) (.bool _) Vv
  ·
   refine qF V V V zG2 <| qL V V V V ta25 V <| qE V V zG0 V <| qC V V V V V <| qP V V V V <| qM V V V ?_
   refine zH0 (fun h17 => ?_) (fun h17 => ?_)
   ·
    have w40f := decide_eq_false (by rw [zX0] at h17; simp at h17; omega : ¬ w.length ≤ 40)
    refine qT V V V V <| qP V V V V <| qN <| zU V (V) <| zB <| qR V <| qA V V V <| qN <| zH ?_
    exact zT (.inr V) zU0 V (.of_eq (by rw [zY1 3]; congr 1; symm; first | (rw [show bareF 3 _ = false by simpa using h11]; rfl) | (rw [w40f]; simp; done) | (rw [c40f]; simp; done))) (.bool _) Vv
   ·
    have w40t := decide_eq_true (by rw [zX0] at h17; simp at h17; omega : w.length ≤ 40)
    refine qF V V V zO2 <| qL V V V V ta24 V <| qE V V zD0 V <| qC V V V V V <| qP V V V V <| qN ?_
    refine zM V (fun h22 => ?_) (fun h22 => ?_)
    ·
     have c40f := decide_eq_false (by rw [zF] at h22; simp at h22; omega : ¬ c.length ≤ 40)
     refine zB <| qR V <| qA V V V <| qN <| zH ?_
     exact zT (.inr V) zU0 V (.of_eq (by rw [zY1 3]; congr 1; symm; first | (rw [show bareF 3 _ = false by simpa using h11]; rfl) | (rw [w40f]; simp; done) | (rw [c40f]; simp; done))) (.bool _) Vv
    ·
     have c40t := decide_eq_true (by rw [zF] at h22; simp at h22; omega : c.length ≤ 40)
     refine zX <| zB <| qR V <| qO V <| zI2 V V V <| qO V <| zM0 V zm286 V V <| qO V <| zZ V V V V sz286 V V (zA V) V <| qN <| zB <| zB <| qR V <| qF V V V zB2 <| qL V V V V ta3 V <| qN <| zB0 <| zB <| qR V <| qC V V V V V <| qA V V V <| qN <| zK V (V) <| zB <| qR V <| qC V V V V V ?_
     refine qA V V V <| qN <| zK V (V) <| zB <| qR V <| qC V V V V V <| qA V V V <| qN <| zU V (V) <| zB <| qR V <| qF V V V zZ2 <| qL V V V V ta23 V ?_
     refine qX V V V V co207 (isRow_spec s _) ?_
     refine qA V V V <| qN <| zH ?_
     exact zT (.inr V) zU0 V (.of_eq (by rw [zY1 3]; rw [show bareF 3 _ = true by simpa using h11, w40t, c40t]; simp only [Bool.true_and, isVL, List.headD_cons, List.tail_cons]; rfl)) (.bool _) Vv
 ·
  obtain ⟨⟨k1, i1⟩, rfl⟩ := one_ins hd.1 (by decide)
  have ih1 := ih (.mk k1 i1) (hd.2 _ (by simp))
  refine zR zP4 V zW4 (zA V) ?_
  refine zB <| qR V <| qB V V V V V <| qB V V V V V <| qA V V V <| qN <| zB <| zB <| qR V <| qF V V V zB2 <| qL V V V V ta3 V <| qL V V V V ta27 V ?_
  refine qX V V V V co205 (zT5 4 (by omega) n m s c w _) ?_
  refine qO V <| zF1 V V <| qM V V V ?_
  refine zH0 (fun h11 => ?_) (fun h11 => ?_)
  ·
   refine qT V V V V <| qP V V V V <| qM V V V <| qT V V V V <| qP V V V V <| qN <| zU V (V) <| zB <| qR V <| qA V V V <| qN <| zH ?_
   exact zT (.inr V) zU0 V (.of_eq (by rw [zY1 4]; congr 1; symm; first | (rw [show bareF 4 _ = false by simpa using h11]; rfl) | (rw [w40f]; simp; done) | (rw [c40f]; simp; done))) (.bool _) Vv
  ·
   refine qF V V V zG2 <| qL V V V V ta25 V <| qE V V zG0 V <| qC V V V V V <| qP V V V V <| qM V V V ?_
   refine zH0 (fun h17 => ?_) (fun h17 => ?_)
   ·
    have w40f := decide_eq_false (by rw [zX0] at h17; simp at h17; omega : ¬ w.length ≤ 40)
    refine qT V V V V <| qP V V V V <| qN <| zU V (V) <| zB <| qR V <| qA V V V <| qN <| zH ?_
    exact zT (.inr V) zU0 V (.of_eq (by rw [zY1 4]; congr 1; symm; first | (rw [show bareF 4 _ = false by simpa using h11]; rfl) | (rw [w40f]; simp; done) | (rw [c40f]; simp; done))) (.bool _) Vv
   ·
    have w40t := decide_eq_true (by rw [zX0] at h17; simp at h17; omega : w.length ≤ 40)
    refine qF V V V zO2 <| qL V V V V ta24 V <| qE V V zD0 V <| qC V V V V V <| qP V V V V <| qN ?_
    refine zM V (fun h22 => ?_) (fun h22 => ?_)
    ·
     have c40f := decide_eq_false (by rw [zF] at h22; simp at h22; omega : ¬ c.length ≤ 40)
     refine zB <| qR V <| qA V V V <| qN <| zH ?_
     exact zT (.inr V) zU0 V (.of_eq (by rw [zY1 4]; congr 1; symm; first | (rw [show bareF 4 _ = false by simpa using h11]; rfl) | (rw [w40f]; simp; done) | (rw [c40f]; simp; done))) (.bool _) Vv
    ·
     have c40t := decide_eq_true (by rw [zF] at h22; simp at h22; omega : c.length ≤ 40)
     refine zX <| zB <| qR V <| qO V <| zI2 V V V <| qO V <| zM0 V zm286 V V <| qO V <| zZ V V V V sz286 V V (zA V) V <| qN <| zB <| zB <| qR V <| qF V V V zB2 <| qL V V V V ta3 V <| qN <| zB0 <| zB <| qR V <| qC V V V V V <| qA V V V <| qN <| zK V (V) <| zB <| qR V <| qC V V V V V ?_
     refine qA V V V <| qN <| zK V (V) <| zB <| qR V <| qC V V V V V <| qA V V V <| qN <| zK V (V) <| zB <| qR V <| qC V V V V V <| qA V V V <| qN <| zU V (V) <| zB <| qR V <| qF V V V zZ2 <| qL V V V V ta23 V ?_
     refine qX V V V V co207 (isRow_spec s _) ?_
     refine qM V V V ?_
     refine zH0 (fun h43 => ?_) (fun h43 => ?_)
     ·
      refine qF V V V zZ2 <| qL V V V V ta23 V <| qE V V zE0 V <| qF V V V zG2 <| qL V V V V ta25 V <| qE V V zG0 V <| qC V V V V V <| qP V V V V <| qM V V V ?_
      refine zH0 (fun h52 => ?_) (fun h52 => ?_)
      ·
       have hsl : s.length = w.length := by rw [zF, zX0] at h52; simp at h52; omega
       refine qF V V V zG2 <| qL V V V V ta25 V <| qO V <| zI2 V V V ?_
       refine qX V V V V co208 (vContains_spec _ w (fun x => !isVF (.mk k1 i1) x || noneF (.mk k1 i1) x) _ [] [.ref (S.length + 2) 0, .ref (S.length + 0) 0] co209 (fun x hx X => is2v_spec 4 k1 i1 [] (isVF (.mk k1 i1)) ih1 x (hvs x hx) _ _ _ (zL4 (k := 2) V) (zL4 (k := 0) V))) ?_
       refine qO V <| zF1 V V <| qP V V V V <| qA V V V <| qN <| zH ?_
       exact zT (.inr V) zU0 V (.of_eq (by rw [zY1 4]; rw [show bareF 4 _ = true by simpa using h11, w40t, c40t]; simp only [Bool.true_and, isVL, List.headD_cons, List.tail_cons]; congr 1; rw [zP]; simp_all [zX0, any_all])) (.bool _) Vv
      ·
       have hsl : ¬ s.length = w.length := by rw [zF, zX0] at h52; simp at h52; omega
       refine qT V V V V <| qS V <| qP V V V V <| qA V V V <| qN <| zH ?_
       exact zT (.inr V) zU0 V (.of_eq (by rw [zY1 4]; rw [show bareF 4 _ = true by simpa using h11, w40t, c40t]; simp only [Bool.true_and, isVL, List.headD_cons, List.tail_cons]; congr 1; rw [zP]; simp_all [zX0, any_all])) (.bool _) Vv
     ·
      refine qT V V V V <| qS V <| qS V <| qS V <| qP V V V V <| qM V V V <| qT V V V V <| qS V <| qP V V V V <| qA V V V <| qN <| zH ?_
      exact zT (.inr V) zU0 V (.of_eq (by rw [zY1 4]; rw [show bareF 4 _ = true by simpa using h11, w40t, c40t]; simp only [Bool.true_and, isVL, List.headD_cons, List.tail_cons]; congr 1; rw [zP]; simp_all [zX0, any_all])) (.bool _) Vv
 ·
  obtain ⟨⟨k1, i1⟩, ⟨k2, i2⟩, rfl⟩ := two_of hd.1
  have ih1 := ih (.mk k1 i1) (hd.2 _ (by simp))
  have ih2 := ih (.mk k2 i2) (hd.2 _ (by simp))
  refine zR zP4 V zW4 (zA V) ?_
  refine zB <| qR V <| qB V V V V V <| qB V V V V V <| qA V V V <| qN <| zB <| zB <| qR V <| qF V V V zB2 <| qL V V V V ta3 V <| qL V V V V ta27 V ?_
  refine qX V V V V co205 (zT5 5 (by omega) n m s c w _) ?_
  refine qO V <| zF1 V V <| qM V V V ?_
  refine zH0 (fun h11 => ?_) (fun h11 => ?_)
  ·
   refine qT V V V V <| qP V V V V <| qM V V V <| qT V V V V <| qP V V V V <| qN <| zU V (V) <| zB <| qR V <| qA V V V <| qN <| zH ?_
   exact zT (.inr V) zU0 V (.of_eq (by rw [zY1 5]; congr 1; symm; first | (rw [show bareF 5 _ = false by simpa using h11]; rfl) | (rw [w40f]; simp; done) | (rw [c40f]; simp; done))) (.bool _) Vv
  ·
   refine qF V V V zG2 <| qL V V V V ta25 V <| qE V V zG0 V <| qC V V V V V <| qP V V V V <| qM V V V ?_
   refine zH0 (fun h17 => ?_) (fun h17 => ?_)
   ·
    have w40f := decide_eq_false (by rw [zX0] at h17; simp at h17; omega : ¬ w.length ≤ 40)
    refine qT V V V V <| qP V V V V <| qN <| zU V (V) <| zB <| qR V <| qA V V V <| qN <| zH ?_
    exact zT (.inr V) zU0 V (.of_eq (by rw [zY1 5]; congr 1; symm; first | (rw [show bareF 5 _ = false by simpa using h11]; rfl) | (rw [w40f]; simp; done) | (rw [c40f]; simp; done))) (.bool _) Vv
   ·
    have w40t := decide_eq_true (by rw [zX0] at h17; simp at h17; omega : w.length ≤ 40)
    refine qF V V V zO2 <| qL V V V V ta24 V <| qE V V zD0 V <| qC V V V V V <| qP V V V V <| qN ?_
    refine zM V (fun h22 => ?_) (fun h22 => ?_)
    ·
     have c40f := decide_eq_false (by rw [zF] at h22; simp at h22; omega : ¬ c.length ≤ 40)
     refine zB <| qR V <| qA V V V <| qN <| zH ?_
     exact zT (.inr V) zU0 V (.of_eq (by rw [zY1 5]; congr 1; symm; first | (rw [show bareF 5 _ = false by simpa using h11]; rfl) | (rw [w40f]; simp; done) | (rw [c40f]; simp; done))) (.bool _) Vv
    ·
     have c40t := decide_eq_true (by rw [zF] at h22; simp at h22; omega : c.length ≤ 40)
     refine zX <| zB <| qR V <| qO V <| zI2 V V V <| qO V <| zM0 V zm286 V V <| qO V <| zZ V V V V sz286 V V (zA V) V <| qN <| zB <| zB <| qR V <| qF V V V zB2 <| qL V V V V ta3 V <| qN <| zB0 <| zB <| qR V <| qC V V V V V <| qA V V V <| qN <| zK V (V) <| zB <| qR V <| qC V V V V V ?_
     refine qA V V V <| qN <| zK V (V) <| zB <| qR V <| qC V V V V V <| qA V V V <| qN <| zK V (V) <| zB <| qR V <| qC V V V V V <| qA V V V <| qN <| zK V (V) <| zB <| qR V <| qC V V V V V <| qA V V V <| qN <| zU V (V) <| zB ?_
     refine zW0 [] [_] mo (by decide) V V V V ?_
     refine dO V V V (zG V V zG2 Vv) <| dO V V V (zN0 V V V ta25 V Vv) <| dO V V V (zU1 V zG0 V Vv) <| dO V V V (zR2 V V V V Vv) <| dO V V V (zY V V Vv) ?_
     refine zR3 (fun h65 => ?_) (fun h65 => ?_)
     ·
      obtain ⟨⟨n1, m1, s1, c1, w1⟩, ⟨n2, m2, s2, c2, w2⟩, rfl⟩ := two_of' (by rw [zX0] at h65; simp at h65; omega : w.length = 2)
      refine dO V V V (zG V V zG3 Vv) <| dO V V V (zN0 V V V ta51 V Vv) <| dO V V V (zI V zO0 sz53 (by decide) V V V (show _ = some (encS (.mk k1 i1)) from V) Vv) ?_
      refine dO V V V (zL V V ta53 V Vv) <| dO V V V (zG V V zG2 Vv) <| dO V V V (zN0 V V V ta25 V Vv) <| dO V V V (zI V zG0 sz27 (by decide) V V V (show _ = some (encV (.mk n1 m1 s1 c1 w1)) from V) Vv) ?_
      refine dO V V V (zL V V ta27 V Vv) <| zN V V (.cons (zT0 V V V co165 (ih1 (.mk n1 m1 s1 c1 w1) (hvs _ (by simp)) _)) .nil) ?_
      refine dO V V V (zP1 V V V Vv) <| dO V V V (zY V V Vv) ?_
      refine zR3 (fun h76 => ?_) (fun h76 => ?_)
      ·
       refine dO V V V (zG V V zG3 Vv) <| dO V V V (zN0 V V V ta51 V Vv) <| dO V V V (zI V zO0 sz53 (by decide) V V V (show _ = some (encS (.mk k2 i2)) from V) Vv) ?_
       refine dO V V V (zL V V ta53 V Vv) <| dO V V V (zG V V zG2 Vv) <| dO V V V (zN0 V V V ta25 V Vv) <| dO V V V (zI V zG0 sz27 (by decide) V V V (show _ = some (encV (.mk n2 m2 s2 c2 w2)) from V) Vv) ?_
       refine dO V V V (zL V V ta27 V Vv) <| zN V V (.cons (zT0 V V V co165 (ih2 (.mk n2 m2 s2 c2 w2) (hvs _ (by simp)) _)) .nil) ?_
       refine dO V V V (zP1 V V V Vv) <| dO V V V (zZ0 V V Vv) <| zQ0 <| zH ?_
       exact zT (.inr V) zU0 V (.of_eq (by rw [zY1 5]; rw [show bareF 5 _ = true by simpa using h11, w40t, c40t]; simp only [Bool.true_and, isVL, List.headD_cons, List.tail_cons]; first | (congr 1; symm; rw [if_neg (by decide), if_neg (by decide), if_neg (by decide), if_neg (by decide), if_pos True.intro]; exact hm2) | (congr 1; rw [zP]; simp_all [zX0]))) (.bool _) Vv
      ·
       refine dS V V <| dS V V <| dS V V <| dS V V <| dS V V <| dS V V <| dS V V <| dS V V <| dS V V <| dO V V V (zP1 V V V Vv) <| dO V V V (zZ0 V V Vv) <| zQ0 <| zH ?_
       exact zT (.inr V) zU0 V (.of_eq (by rw [zY1 5]; rw [show bareF 5 _ = true by simpa using h11, w40t, c40t]; simp only [Bool.true_and, isVL, List.headD_cons, List.tail_cons]; first | (congr 1; symm; rw [if_neg (by decide), if_neg (by decide), if_neg (by decide), if_neg (by decide), if_pos True.intro]; exact hm2) | (congr 1; rw [zP]; simp_all [zX0]))) (.bool _) Vv
     ·
      have hm2 := match2_no (f := isVF (.mk k1 i1)) (g := isVF (.mk k2 i2)) (by rw [zX0] at h65; simp at h65; omega : w.length ≠ 2)
      refine dS V V <| dS V V <| dS V V <| dS V V <| dS V V <| dS V V <| dS V V <| dS V V <| dS V V <| dO V V V (zP1 V V V Vv) <| dO V V V (zY V V Vv) <| dS V V <| dS V V <| dS V V <| dS V V <| dS V V <| dS V V <| dS V V <| dS V V <| dS V V <| dO V V V (zP1 V V V Vv) <| dO V V V (zZ0 V V Vv) <| zQ0 <| zH ?_
      exact zT (.inr V) zU0 V (.of_eq (by rw [zY1 5]; rw [show bareF 5 _ = true by simpa using h11, w40t, c40t]; simp only [Bool.true_and, isVL, List.headD_cons, List.tail_cons]; first | (congr 1; symm; rw [if_neg (by decide), if_neg (by decide), if_neg (by decide), if_neg (by decide), if_pos True.intro]; exact hm2) | (congr 1; rw [zP]; simp_all [zX0]))) (.bool _) Vv
 ·
  refine zR zP4 V zW4 (zA V) ?_
  refine zB <| qR V <| qB V V V V V <| qB V V V V V <| qA V V V <| qN <| zB <| zB <| qR V <| qF V V V zB2 <| qL V V V V ta3 V <| qL V V V V ta27 V ?_
  refine qX V V V V co205 (zT5 6 (by omega) n m s c w _) ?_
  refine qO V <| zF1 V V <| qM V V V ?_
  refine zH0 (fun h11 => ?_) (fun h11 => ?_)
  ·
   refine qT V V V V <| qP V V V V <| qM V V V <| qT V V V V <| qP V V V V <| qN <| zU V (V) <| zB <| qR V <| qA V V V <| qN <| zH ?_
   exact zT (.inr V) zU0 V (.of_eq (by rw [zY1 6]; congr 1; symm; first | (rw [show bareF 6 _ = false by simpa using h11]; rfl) | (rw [w40f]; simp; done) | (rw [c40f]; simp; done))) (.bool _) Vv
  ·
   refine qF V V V zG2 <| qL V V V V ta25 V <| qE V V zG0 V <| qC V V V V V <| qP V V V V <| qM V V V ?_
   refine zH0 (fun h17 => ?_) (fun h17 => ?_)
   ·
    have w40f := decide_eq_false (by rw [zX0] at h17; simp at h17; omega : ¬ w.length ≤ 40)
    refine qT V V V V <| qP V V V V <| qN <| zU V (V) <| zB <| qR V <| qA V V V <| qN <| zH ?_
    exact zT (.inr V) zU0 V (.of_eq (by rw [zY1 6]; congr 1; symm; first | (rw [show bareF 6 _ = false by simpa using h11]; rfl) | (rw [w40f]; simp; done) | (rw [c40f]; simp; done))) (.bool _) Vv
   ·
    have w40t := decide_eq_true (by rw [zX0] at h17; simp at h17; omega : w.length ≤ 40)
    refine qF V V V zO2 <| qL V V V V ta24 V <| qE V V zD0 V <| qC V V V V V <| qP V V V V <| qN ?_
    refine zM V (fun h22 => ?_) (fun h22 => ?_)
    ·
     have c40f := decide_eq_false (by rw [zF] at h22; simp at h22; omega : ¬ c.length ≤ 40)
     refine zB <| qR V <| qA V V V <| qN <| zH ?_
     exact zT (.inr V) zU0 V (.of_eq (by rw [zY1 6]; congr 1; symm; first | (rw [show bareF 6 _ = false by simpa using h11]; rfl) | (rw [w40f]; simp; done) | (rw [c40f]; simp; done))) (.bool _) Vv
    ·
     have c40t := decide_eq_true (by rw [zF] at h22; simp at h22; omega : c.length ≤ 40)
     refine zX <| zB <| qR V <| qO V <| zI2 V V V <| qO V <| zM0 V zm286 V V <| qO V <| zZ V V V V sz286 V V (zA V) V <| qN <| zB <| zB <| qR V <| qF V V V zB2 <| qL V V V V ta3 V <| qN <| zB0 <| zB <| qR V <| qC V V V V V <| qA V V V <| qN <| zK V (V) <| zB <| qR V <| qC V V V V V ?_
     refine qA V V V <| qN <| zK V (V) <| zB <| qR V <| qC V V V V V <| qA V V V <| qN <| zK V (V) <| zB <| qR V <| qC V V V V V <| qA V V V <| qN <| zK V (V) <| zB <| qR V <| qC V V V V V <| qA V V V <| qN <| zK V (V) <| zB <| qR V ?_
     refine qC V V V V V <| qA V V V <| qN <| zU V (V) <| zB <| qR V <| qL V V V V ta27 V ?_
     refine qX V V V V co210 (isLast_spec n m s c w hv.1.1 hv.2.1.1 _) ?_
     refine qA V V V <| qN <| zH ?_
     exact zT (.inr V) zU0 V (.of_eq (by rw [zY1 6]; rw [show bareF 6 _ = true by simpa using h11, w40t, c40t]; simp only [Bool.true_and, isVL, List.headD_cons, List.tail_cons]; rfl)) (.bool _) Vv
 ·
  refine zR zP4 V zW4 (zA V) ?_
  refine zB <| qR V <| qB V V V V V <| qB V V V V V <| qA V V V <| qN <| zB <| zB <| qR V <| qF V V V zB2 <| qL V V V V ta3 V <| qL V V V V ta27 V ?_
  refine qX V V V V co205 (zT5 7 (by omega) n m s c w _) ?_
  refine qO V <| zF1 V V <| qM V V V ?_
  refine zH0 (fun h11 => ?_) (fun h11 => ?_)
  ·
   refine qT V V V V <| qP V V V V <| qM V V V <| qT V V V V <| qP V V V V <| qN <| zU V (V) <| zB <| qR V <| qA V V V <| qN <| zH ?_
   exact zT (.inr V) zU0 V (.of_eq (by rw [zY1 7]; congr 1; symm; first | (rw [show bareF 7 _ = false by simpa using h11]; rfl) | (rw [w40f]; simp; done) | (rw [c40f]; simp; done))) (.bool _) Vv
  ·
   refine qF V V V zG2 <| qL V V V V ta25 V <| qE V V zG0 V <| qC V V V V V <| qP V V V V <| qM V V V ?_
   refine zH0 (fun h17 => ?_) (fun h17 => ?_)
   ·
    have w40f := decide_eq_false (by rw [zX0] at h17; simp at h17; omega : ¬ w.length ≤ 40)
    refine qT V V V V <| qP V V V V <| qN <| zU V (V) <| zB <| qR V <| qA V V V <| qN <| zH ?_
    exact zT (.inr V) zU0 V (.of_eq (by rw [zY1 7]; congr 1; symm; first | (rw [show bareF 7 _ = false by simpa using h11]; rfl) | (rw [w40f]; simp; done) | (rw [c40f]; simp; done))) (.bool _) Vv
   ·
    have w40t := decide_eq_true (by rw [zX0] at h17; simp at h17; omega : w.length ≤ 40)
    refine qF V V V zO2 <| qL V V V V ta24 V <| qE V V zD0 V <| qC V V V V V <| qP V V V V <| qN ?_
    refine zM V (fun h22 => ?_) (fun h22 => ?_)
    ·
     have c40f := decide_eq_false (by rw [zF] at h22; simp at h22; omega : ¬ c.length ≤ 40)
     refine zB <| qR V <| qA V V V <| qN <| zH ?_
     exact zT (.inr V) zU0 V (.of_eq (by rw [zY1 7]; congr 1; symm; first | (rw [show bareF 7 _ = false by simpa using h11]; rfl) | (rw [w40f]; simp; done) | (rw [c40f]; simp; done))) (.bool _) Vv
    ·
     have c40t := decide_eq_true (by rw [zF] at h22; simp at h22; omega : c.length ≤ 40)
     refine zX <| zB <| qR V <| qO V <| zI2 V V V <| qO V <| zM0 V zm286 V V <| qO V <| zZ V V V V sz286 V V (zA V) V <| qN <| zB <| zB <| qR V <| qF V V V zB2 <| qL V V V V ta3 V <| qN <| zB0 <| zB <| qR V <| qC V V V V V <| qA V V V <| qN <| zK V (V) <| zB <| qR V <| qC V V V V V ?_
     refine qA V V V <| qN <| zK V (V) <| zB <| qR V <| qC V V V V V <| qA V V V <| qN <| zK V (V) <| zB <| qR V <| qC V V V V V <| qA V V V <| qN <| zK V (V) <| zB <| qR V <| qC V V V V V <| qA V V V <| qN <| zK V (V) <| zB <| qR V ?_
     refine qC V V V V V <| qA V V V <| qN <| zK V (V) <| zB <| qR V <| qC V V V V V <| qA V V V <| qN <| zU V (V) <| zB <| qR V <| qF V V V zO2 <| qL V V V V ta24 V <| qE V V zD0 V <| qC V V V V V <| qM V V V ?_
     refine zH0 (fun h97 => ?_) (fun h97 => ?_)
     ·
      refine qT V V V V <| qT V V V V <| qT V V V V <| qT V V V V <| qS V <| qS V <| qS V <| qP V V V V <| qA V V V <| qN <| zH ?_
      exact zT (.inr V) zU0 V (.of_eq (by rw [zY1 7]; rw [show bareF 7 _ = true by simpa using h11, w40t, c40t]; simp only [Bool.true_and, isVL, List.headD_cons, List.tail_cons]; first | (congr 1; symm; rw [if_neg (by decide), if_neg (by decide), if_neg (by decide), if_neg (by decide), if_neg (by decide), if_neg (by decide), if_pos True.intro]; exact hm2) | (congr 1; rw [zP]; simp_all))) (.bool _) Vv
     ·
      have hc0 : ¬ c = [] := by simpa using h97
      refine qF V V V zO2 <| qL V V V V ta24 V <| qE V V zD0 V <| qC V V V V V <| qM V V V ?_
      refine zH0 (fun h102 => ?_) (fun h102 => ?_)
      ·
       obtain ⟨c0, rfl⟩ := one_of (by rw [zF] at h102; simp at h102; omega : c.length = 1)
       refine qF V V V zO2 <| qL V V V V ta24 V <| qO V <| zI V zD0 sz202 (by decide) V V V (show _ = some (encC c0) from V) ?_
       refine qO V <| zL V V ta202 V <| qE V V zC0 V <| qC V V V V V <| qP V V V V <| qM V V V ?_
       refine zH0 (fun h110 => ?_) (fun h110 => ?_)
       ·
        refine qF V V V zO2 <| qL V V V V ta24 V <| qO V <| zI V zD0 sz202 (by decide) V V V (show _ = some (encC c0) from V) ?_
        refine qO V <| zL V V ta202 V ?_
        refine qX V V V V co211 (clkIs_spec c0 _) ?_
        refine qP V V V V <| qP V V V V <| qA V V V <| qN <| zH ?_
        exact zT (.inr V) zU0 V (.of_eq (by rw [zY1 7]; rw [show bareF 7 _ = true by simpa using h11, w40t, c40t]; simp only [Bool.true_and, isVL, List.headD_cons, List.tail_cons]; first | (congr 1; symm; rw [if_neg (by decide), if_neg (by decide), if_neg (by decide), if_neg (by decide), if_neg (by decide), if_neg (by decide), if_pos True.intro]; exact hm2) | (congr 1; rw [zP]; simp_all))) (.bool _) Vv
       ·
        refine qT V V V V <| qS V <| qP V V V V <| qP V V V V <| qA V V V <| qN <| zH ?_
        exact zT (.inr V) zU0 V (.of_eq (by rw [zY1 7]; rw [show bareF 7 _ = true by simpa using h11, w40t, c40t]; simp only [Bool.true_and, isVL, List.headD_cons, List.tail_cons]; first | (congr 1; symm; rw [if_neg (by decide), if_neg (by decide), if_neg (by decide), if_neg (by decide), if_neg (by decide), if_neg (by decide), if_pos True.intro]; exact hm2) | (congr 1; rw [zP]; simp_all))) (.bool _) Vv
      ·
       have hm2 := match1_no hc0 (by rw [zF] at h102; simp at h102; omega : c.length ≠ 1)
       refine qT V V V V <| qS V <| qS V <| qP V V V V <| qM V V V <| qT V V V V <| qS V <| qP V V V V <| qP V V V V <| qA V V V <| qN <| zH ?_
       exact zT (.inr V) zU0 V (.of_eq (by rw [zY1 7]; rw [show bareF 7 _ = true by simpa using h11, w40t, c40t]; simp only [Bool.true_and, isVL, List.headD_cons, List.tail_cons]; first | (congr 1; symm; rw [if_neg (by decide), if_neg (by decide), if_neg (by decide), if_neg (by decide), if_neg (by decide), if_neg (by decide), if_pos True.intro]; exact hm2) | (congr 1; rw [zP]; simp_all))) (.bool _) Vv
 ·
  obtain ⟨⟨k1, i1⟩, rfl⟩ := one_ins hd.1 (by decide)
  have ih1 := ih (.mk k1 i1) (hd.2 _ (by simp))
  refine zR zP4 V zW4 (zA V) ?_
  refine zB <| qR V <| qB V V V V V <| qB V V V V V <| qA V V V <| qN <| zB <| zB <| qR V <| qF V V V zB2 <| qL V V V V ta3 V <| qL V V V V ta27 V ?_
  refine qX V V V V co205 (zT5 8 (by omega) n m s c w _) ?_
  refine qO V <| zF1 V V <| qM V V V ?_
  refine zH0 (fun h11 => ?_) (fun h11 => ?_)
  ·
   refine qT V V V V <| qP V V V V <| qM V V V <| qT V V V V <| qP V V V V <| qN <| zU V (V) <| zB <| qR V <| qA V V V <| qN <| zH ?_
   exact zT (.inr V) zU0 V (.of_eq (by rw [zY1 8]; congr 1; symm; first | (rw [show bareF 8 _ = false by simpa using h11]; rfl) | (rw [w40f]; simp; done) | (rw [c40f]; simp; done))) (.bool _) Vv
  ·
   refine qF V V V zG2 <| qL V V V V ta25 V <| qE V V zG0 V <| qC V V V V V <| qP V V V V <| qM V V V ?_
   refine zH0 (fun h17 => ?_) (fun h17 => ?_)
   ·
    have w40f := decide_eq_false (by rw [zX0] at h17; simp at h17; omega : ¬ w.length ≤ 40)
    refine qT V V V V <| qP V V V V <| qN <| zU V (V) <| zB <| qR V <| qA V V V <| qN <| zH ?_
    exact zT (.inr V) zU0 V (.of_eq (by rw [zY1 8]; congr 1; symm; first | (rw [show bareF 8 _ = false by simpa using h11]; rfl) | (rw [w40f]; simp; done) | (rw [c40f]; simp; done))) (.bool _) Vv
   ·
    have w40t := decide_eq_true (by rw [zX0] at h17; simp at h17; omega : w.length ≤ 40)
    refine qF V V V zO2 <| qL V V V V ta24 V <| qE V V zD0 V <| qC V V V V V <| qP V V V V <| qN ?_
    refine zM V (fun h22 => ?_) (fun h22 => ?_)
    ·
     have c40f := decide_eq_false (by rw [zF] at h22; simp at h22; omega : ¬ c.length ≤ 40)
     refine zB <| qR V <| qA V V V <| qN <| zH ?_
     exact zT (.inr V) zU0 V (.of_eq (by rw [zY1 8]; congr 1; symm; first | (rw [show bareF 8 _ = false by simpa using h11]; rfl) | (rw [w40f]; simp; done) | (rw [c40f]; simp; done))) (.bool _) Vv
    ·
     have c40t := decide_eq_true (by rw [zF] at h22; simp at h22; omega : c.length ≤ 40)
     refine zX <| zB <| qR V <| qO V <| zI2 V V V <| qO V <| zM0 V zm286 V V <| qO V <| zZ V V V V sz286 V V (zA V) V <| qN <| zB <| zB <| qR V <| qF V V V zB2 <| qL V V V V ta3 V <| qN <| zB0 <| zB <| qR V <| qC V V V V V <| qA V V V <| qN <| zK V (V) <| zB <| qR V <| qC V V V V V ?_
     refine qA V V V <| qN <| zK V (V) <| zB <| qR V <| qC V V V V V <| qA V V V <| qN <| zK V (V) <| zB <| qR V <| qC V V V V V <| qA V V V <| qN <| zK V (V) <| zB <| qR V <| qC V V V V V <| qA V V V <| qN <| zK V (V) <| zB <| qR V ?_
     refine qC V V V V V <| qA V V V <| qN <| zK V (V) <| zB <| qR V <| qC V V V V V <| qA V V V <| qN <| zK V (V) <| zX <| zB <| qR V <| qF V V V zO2 <| qL V V V V ta24 V <| qE V V zD0 V <| qF V V V zG2 <| qL V V V V ta25 V <| qE V V zG0 V <| qC V V V V V ?_
     refine qM V V V ?_
     refine zH0 (fun h125 => ?_) (fun h125 => ?_)
     ·
      have hsl : c.length = w.length := by rw [zF, zX0] at h125; simp at h125; omega
      refine qF V V V zO2 <| qL V V V V ta24 V ?_
      refine qX V V V V co212 (isCause_spec c _) ?_
      refine qP V V V V <| qM V V V ?_
      refine zH0 (fun h130 => ?_) (fun h130 => ?_)
      ·
       refine qF V V V zG2 <| qL V V V V ta25 V <| qO V <| zI2 V V V ?_
       refine qX V V V V co208 (vContains_spec _ w (fun x => !isVF (.mk k1 i1) x) _ [] [.ref (S.length + 2) 0] co213 (fun x hx X => is3v_spec 8 k1 i1 [] (isVF (.mk k1 i1)) ih1 x (hvs x hx) _ _ _ (zL4 (k := 2) V) (zL4 (k := 0) V))) ?_
       refine qO V <| zF1 V V <| qP V V V V <| qA V V V <| qN <| zH ?_
       exact zT (.inr V) zU0 V (.of_eq (by rw [zY1 8]; rw [show bareF 8 _ = true by simpa using h11, w40t, c40t]; simp only [Bool.true_and, isVL, List.headD_cons, List.tail_cons]; congr 1; rw [zP]; simp_all [zX0, any_all'])) (.bool _) Vv
      ·
       refine qT V V V V <| qS V <| qP V V V V <| qA V V V <| qN <| zH ?_
       exact zT (.inr V) zU0 V (.of_eq (by rw [zY1 8]; rw [show bareF 8 _ = true by simpa using h11, w40t, c40t]; simp only [Bool.true_and, isVL, List.headD_cons, List.tail_cons]; congr 1; rw [zP]; simp_all [zX0, any_all'])) (.bool _) Vv
     ·
      have hsl : ¬ c.length = w.length := by rw [zF, zX0] at h125; simp at h125; omega
      refine qS V <| qS V <| qS V <| qP V V V V <| qM V V V <| qT V V V V <| qS V <| qP V V V V <| qA V V V <| qN <| zH ?_
      exact zT (.inr V) zU0 V (.of_eq (by rw [zY1 8]; rw [show bareF 8 _ = true by simpa using h11, w40t, c40t]; simp only [Bool.true_and, isVL, List.headD_cons, List.tail_cons]; congr 1; rw [zP]; simp_all [zX0, any_all'])) (.bool _) Vv
abbrev Tbl := Bs × Int × Sch
def encTb : Tbl → MV
 | (n, lv, .mk k i) => .agg [.str (bs n), .int .i64 lv, .int .i64 k, .lst none 2 (encSs i)]
def tb0 : Tbl := ([], 0, .mk 0 [])
def findP (l : List Tbl) (key : Bs) : Option Tbl := if key.length < 2 ∨ 8 < key.length ∨ plainS key = false then none else l.find? (fun t => decide (t.1 = key.take 1))
theorem cl_encTb (n : Nat) (t : Tbl) : Cl n (encTb t) := by
 obtain ⟨a, b, ⟨k, i⟩⟩ := t
 refine .agg _ fun x hx => ?_
 simp only [List.mem_cons, List.not_mem_nil, or_false] at hx
 rcases hx with rfl | rfl | rfl | rfl
 ·exact .str _
 ·exact .int _ _
 ·exact .int _ _
 ·exact cl_encSl n i
theorem find_go {l : List Tbl} {p : Tbl → Bool} : ∀ i : Nat, (findGo p i l = -1 ∧ l.find? p = none) ∨ (∃ (j : Nat) (t : Tbl), findGo p i l = ((i + j : Nat) : Int) ∧ l[j]? = some t ∧ l.find? p = some t) := by
 induction l with
 | nil => exact fun i => .inl ⟨rfl, rfl⟩
 | cons x l ih =>
  intro i
  unfold findGo
  rw [List.find?_cons]
  cases h : p x with
  | true => exact .inr ⟨0, x, by simp, rfl, by simp⟩
  | false =>
   rcases ih (i + 1) with ⟨h1, h2⟩ | ⟨j, t, h1, h2, h3⟩
   ·exact .inl ⟨by simpa using h1, by simpa using h2⟩
   ·exact .inr ⟨j + 1, t, by simp only [h1]; simp; omega, by simpa using h2, by simpa using h3⟩
theorem strEq_D (a b : Bs) : strCmp .eql a b = some (decide (a = b)) := by
 show some (a == b) = _
 congr 1
 rw [zP, beq_iff_eq, decide_eq_true_iff]
theorem own_at0 {S L : MS} {o : MObj} : (S ++ o :: L)[S.length]? = some o := zI4
theorem _root_.zJ2 : type_of% @Tryz.underlying39 := @Tryz.underlying39
theorem tbIndex_spec (S : MS) (l : List Tbl) (p : Tbl → Bool) (kf : FuncId) (first caps : List MV) (hco : CallOk Tryz.prog kf) (hp : ∀ x ∈ l, ∀ X : MS, MCalls Tryz.prog kf (first ++ [encTb x] ++ caps) (S ++ X) fun v σ' => v = .bool (p x) ∧ σ' = S ++ X) : MCalls Tryz.prog 76 [.lst none 4 (l.map encTb), .fn (.func kf) first caps] S fun v σ' => v = .int .i64 (findGo p 0 l) ∧ σ' = S := by
 refine zR Tryz.func76 V Tryz.ntmps76 (zA V) ?_
 refine zZ3 (t := 0) V fun hlen => ?_
 rw [zF] at hlen
 refine zB <| qR V <| qA V V V <| qN <| zB <| zB <| qR V <| qM V V V <| qE V V zJ2 V <| qM V V V <| qN <| zB0 ?_
 refine zK2 (α := Nat) [(0, _), (1, _), (7, _)] (fun i => [(8, .int .i64 (i : Int))]) (fun i => []) (fun i => i ≤ l.length ∧ findGo p i (l.drop i) = findGo p 0 l) (fun i => l.length - i) (0) (.keep V (.keep V (.keep V (.nil)))) (.keep V (.nil)) (⟨by omega, rfl⟩) (V) ?_
 rintro i ⟨hi, he⟩
 refine zB <| qR V <| qC V V V V V <| qN <| zB ?_
 refine zM V (fun h9 => ?_) (fun h9 => ?_)
 ·
  rw [zF] at h9
  have hlt : i < l.length := by simpa using h9
  obtain ⟨x, hs⟩ : ∃ x, l[i]? = some x := ⟨_, zC hlt⟩
  obtain ⟨xn, xl, ⟨xk, xi⟩⟩ := x
  refine zX <| zB <| zB0 <| zB <| qR V <| qM V V V <| qA V V V <| qN <| zB <| qR V <| qM V V V <| qM V V V <| qM V V V <| qO V <| zI V zJ2 sz55 (by decide) V V V (zM1 hs) ?_
  refine qO V <| zL V V ta55 V ?_
  refine zM4 V (zT0 V V V hco ((hp _ (zW hs) _).mono ?_))
  rintro _ _ ⟨rfl, rfl⟩
  refine qN ?_
  refine zM V (fun h16 => ?_) (fun h16 => ?_)
  ·
   refine zB <| qR V <| qM V V V <| qA V V V <| qN <| zH ?_
   exact zT (.inr V) Tryz.results76 V (.of_eq (by rw [← he, find_at hs, h16]; rfl)) (.int _ _) Vv
  ·
   refine zX <| qR V <| qO V <| zH1 V V V V <| qM V V V <| qN ?_
   refine ⟨i + 1, by omega, ⟨by omega, by rw [← he, find_at hs, h16]; rfl⟩, rfl, (.keep V (.keep V (.keep V (.nil)))), (.eq V (zH2 hlt hlen) (.nil))⟩
 ·
  rw [zF] at h9
  have hge : i = l.length := by simp at h9; omega
  refine zV1 <| zB <| qR V <| qA V V V <| qN <| zH ?_
  exact zT (.inr V) Tryz.results76 V (.of_eq (by rw [← he, hge, List.drop_length]; rfl)) (.int _ _) Vv
theorem tbContains_spec (S : MS) (l : List Tbl) (p : Tbl → Bool) (kf : FuncId) (first caps : List MV) (hco : CallOk Tryz.prog kf) (hp : ∀ x ∈ l, ∀ X : MS, MCalls Tryz.prog kf (first ++ [encTb x] ++ caps) (S ++ X) fun v σ' => v = .bool (p x) ∧ σ' = S ++ X) : MCalls Tryz.prog 80 [.lst none 4 (l.map encTb), .fn (.func kf) first caps] S fun v σ' => v = .bool (l.any p) ∧ σ' = S := by
 refine zR Tryz.func80 V Tryz.ntmps80 (zA V) ?_
 refine zB <| qR V <| qA V V V <| qN <| zB <| qR V <| qM V V V <| qM V V V ?_
 refine qX V V V V co76 (tbIndex_spec (S ++ []) l p kf first caps hco (by rw [List.append_nil]; exact hp)) ?_
 refine qC V V V V V <| qA V V V <| qN <| zH ?_
 exact zT (.inr V) Tryz.results80 V (.of_eq (by rw [find_any p 0 l])) (.bool _) Vv
theorem find1_spec (t : Tbl) (key : Bs) (id : Nat) (S : MS) (hl : 1 ≤ key.length) (hS : S[id]? = some (.cells [.str (bs key)])) : MCalls Tryz.prog 77 [encTb t, .ref id 0] S fun v σ' => v = .bool (decide (t.1 = key.take 1)) ∧ σ' = S := by
 obtain ⟨xn, xl, ⟨xk, xi⟩⟩ := t
 refine zR Tryz.func77 V Tryz.ntmps77 (zA V) ?_
 refine zB <| qR V <| qB V V V V V <| qA V V V <| qN <| zB ?_
 refine zW0 [] [_] mo (by decide) V V V V ?_
 refine dO V V V (zG V V fo55_0 Vv) <| dO V V V (zN0 V V V ta9 V Vv) <| dO V V V (zA2 V V hS ta9 V Vv) <| dO V V V (op_slice_str V zL0 V .none (.some V V) (by omega) (by omega) Vv) ?_
 refine dO V V V (zB3 V V V (strEq_D _ _) Vv) <| dO V V V (zZ0 V V Vv) <| zQ0 <| zH ?_
 exact zT (.inr V) Tryz.results77 V (.of_eq (V)) (.bool _) Vv
theorem sub_tb0 : Sub (.agg [.str ⟨#[]⟩, .int .i64 0, .int .i64 0, .lst0]) (encTb tb0) := .agg (.cons (.refl _) (.cons (.refl _) (.cons (.refl _) (.cons (.nil 2) .nil))))
theorem findP_no {l : List Tbl} {key : Bs} (h : findP l key = none) : MV.tup [encTb ((findP l key).getD tb0), .bool (findP l key).isSome] = .tup [encTb tb0, .bool false] := by rw [h]; rfl
theorem findP_yes {l : List Tbl} {key : Bs} {t : Tbl} (h : findP l key = some t) : MV.tup [encTb ((findP l key).getD tb0), .bool (findP l key).isSome] = .tup [encTb t, .bool true] := by rw [h]; rfl
theorem _root_.zT3 : type_of% @Tryz.underlying55 := @Tryz.underlying55
theorem find_spec (l : List Tbl) (key : Bs) (S : MS) : MCalls Tryz.prog 20 [.lst none 4 (l.map encTb), .str (bs key)] S fun v σ' => v = .tup [encTb ((findP l key).getD tb0), .bool (findP l key).isSome] ∧ σ' = S := by
 refine zR Tryz.func20 V Tryz.ntmps20 (zA V) ?_
 refine zB <| qR V <| qB V V V V V <| qO V <| zM0 V zm55 V V <| qA V V V <| qN <| zB <| zB <| qR V <| qL V V V V ta9 V <| qO V <| zO3 V zL0 V <| qC V V V V V <| qM V V V ?_
 refine zH0 (fun h10 => ?_) (fun h10 => ?_)
 ·
  have h9a : key.length < 2 := by simp at h10; omega
  refine qS V <| qS V <| qS V <| qP V V V V <| qM V V V <| qS V <| qS V <| qS V <| qP V V V V <| qN <| zU V (V) <| zB <| qR V <| qO V <| zR1 V zT3 zm55 .nil (by kernel_rfl) ?_
  refine qO V <| zZ V V V V sz55 V V (zA V) V <| qA V V V <| qN <| zH ?_
  exact zJ1 (.inr V) Tryz.results20 V V ta55 V (sub_tb0) (cl_encTb _ tb0) V (.refl _) (.bool _) ⟨by exact (findP_no (by unfold findP; rw [if_pos (by simp_all)])).symm, rfl⟩
 ·
  have h9a : ¬ key.length < 2 := by simp at h10; omega
  refine qL V V V V ta9 V <| qO V <| zO3 V zL0 V <| qC V V V V V <| qP V V V V <| qM V V V ?_
  refine zH0 (fun h15 => ?_) (fun h15 => ?_)
  ·
   have h13a : 8 < key.length := by simp at h15; omega
   refine qS V <| qS V <| qS V <| qP V V V V <| qN <| zU V (V) <| zB <| qR V <| qO V <| zR1 V zT3 zm55 .nil (by kernel_rfl) ?_
   refine qO V <| zZ V V V V sz55 V V (zA V) V <| qA V V V <| qN <| zH ?_
   exact zJ1 (.inr V) Tryz.results20 V V ta55 V (sub_tb0) (cl_encTb _ tb0) V (.refl _) (.bool _) ⟨by exact (findP_no (by unfold findP; rw [if_pos (by simp_all)])).symm, rfl⟩
  ·
   have h13a : ¬ 8 < key.length := by simp at h15; omega
   refine qL V V V V ta9 V ?_
   refine qX V V V V co75 (isPlain_spec key (by intro e; subst e; simp at h9a) (by omega) _) ?_
   refine qO V <| zF1 V V <| qP V V V V <| qN ?_
   refine zM V (fun h19 => ?_) (fun h19 => ?_)
   ·
    refine zB <| qR V <| qO V <| zR1 V zT3 zm55 .nil (by kernel_rfl) ?_
    refine qO V <| zZ V V V V sz55 V V (zA V) V <| qA V V V <| qN <| zH ?_
    exact zJ1 (.inr V) Tryz.results20 V V ta55 V (sub_tb0) (cl_encTb _ tb0) V (.refl _) (.bool _) ⟨by exact (findP_no (by unfold findP; rw [if_pos (by simp_all)])).symm, rfl⟩
   ·
    refine zX <| zB <| qR V <| qM V V V <| qO V <| zI2 V V V ?_
    refine qX V V V V co76 (tbIndex_spec _ l (fun t => decide (t.1 = key.take 1)) _ [] [.ref S.length 0] co77 (fun x _ X => find1_spec x key S.length _ (by omega) (by rw [zO]; exact own_at0))) ?_
    refine qA V V V <| qN <| zB <| zB <| qR V <| qM V V V <| qC V V V V V <| qN ?_
    refine zM V (fun h25 => ?_) (fun h25 => ?_)
    ·
     have hfn : l.find? (fun t => decide (t.1 = key.take 1)) = none := by
      rcases find_go (p := fun t => decide (t.1 = key.take 1)) (l := l) 0 with ⟨_, h⟩ | ⟨j, t, h1, _⟩
      ·exact h
      ·rw [h1] at h25
       simp at h25
       omega
     refine zB <| qR V <| qO V <| zR1 V zT3 zm55 .nil (by kernel_rfl) ?_
     refine qO V <| zZ V V V V sz55 V V (zA V) V <| qA V V V <| qN <| zH ?_
     exact zJ1 (.inr V) Tryz.results20 V V ta55 V (sub_tb0) (cl_encTb _ tb0) V (.refl _) (.bool _) ⟨by exact (findP_no (by unfold findP; rw [hfn]; split <;> rfl)).symm, rfl⟩
    ·
     obtain ⟨j, t, hj, ht, hf⟩ : ∃ (j : Nat) (t : Tbl), findGo (fun t => decide (t.1 = key.take 1)) 0 l = (j : Int) ∧ l[j]? = some t ∧ findP l key = some t := by
      rcases find_go (p := fun t => decide (t.1 = key.take 1)) (l := l) 0 with ⟨h, _⟩ | ⟨j, t, h1, h2, h3⟩
      ·rw [h] at h25
       simp at h25
      ·exact ⟨j, t, by simpa using h1, h2, by unfold findP; rw [if_neg (by simp_all)]; exact h3⟩
     rw [hj]
     obtain ⟨xn, xl, ⟨xk, xi⟩⟩ := t
     refine zX <| zB <| qR V <| qM V V V <| qM V V V <| qO V <| zI V zJ2 sz55 (by decide) V V V (zM1 ht) ?_
     refine qO V <| zL V V ta55 V <| qO V <| zZ V V V V sz55 V V (zA V) V <| qA V V V <| qN <| zH ?_
     exact zJ1 (.inr V) Tryz.results20 V V ta55 V (.refl _) (cl_encTb _ (xn, xl, .mk xk xi)) V (.refl _) (.bool _) ⟨by exact (findP_yes hf).symm, rfl⟩
theorem _root_.zU5 : type_of% @find_spec := @find_spec
def namedT (t : Tbl) : Bool := match t.1 with
 | [c] => decide (97 ≤ c.toNat) && decide (c.toNat ≤ 122)
 | _ => false
noncomputable def goodT (t : Tbl) : Bool := namedT t && !decide (levelF t.2.2 = 0) && (decide (t.2.1 = levelF t.2.2) || decide (t.2.1 = 1))
noncomputable def rightAt (l : List Tbl) (i : Nat) : Bool := match l[i]? with
 | some t => goodT t && !(l.take i).any (fun o => decide (o.1 = t.1))
 | none => true
noncomputable def rightF (l : List Tbl) : Bool := (List.range l.length).all (rightAt l) && decide (1 ≤ l.length) && decide (l.length ≤ 4)
theorem geqN {n m : Nat} : intCmp .geq (n : Int) (m : Int) = some (decide (m ≤ n)) := by simp [intCmp]
theorem leqN {n m : Nat} : intCmp .leq (n : Int) (m : Int) = some (decide (n ≤ m)) := by simp [intCmp]
theorem eqlZ {n m : Int} : intCmp .eql n m = some (decide (n = m)) := by
 rfl
theorem neqI {n m : Int} : intCmp .neq n m = some (!decide (n = m)) := by
 rfl
theorem right_no {l : List Tbl} {i : Nat} (hi : i < l.length) (h : rightAt l i = false) : rightF l = false := by
 unfold rightF
 rw [(List.all_eq_false).2 ⟨i, List.mem_range.2 hi, by simp [h]⟩]
 rfl
theorem right_all {l : List Tbl} (h : ∀ j < l.length, rightAt l j = true) : rightF l = (decide (1 ≤ l.length) && decide (l.length ≤ 4)) := by
 unfold rightF
 rw [(List.all_eq_true).2 fun i hi => h i (List.mem_range.1 hi)]
 rfl
theorem named_len {t : Tbl} (h : ¬ t.1.length = 1) : namedT t = false := by
 unfold namedT
 split
 ·rename_i h1
  rw [h1] at h
  exact absurd rfl h
 ·rfl
theorem right_step {l : List Tbl} {i : Nat} (hd : ∀ j < i, rightAt l j = true) (h : rightAt l i = true) : ∀ j < i + 1, rightAt l j = true := by
 intro j hj
 rcases Nat.lt_or_eq_of_le (Nat.le_of_lt_succ hj) with h1 | rfl
 ·exact hd j h1
 ·exact h
theorem right1_spec (o t : Tbl) (id : Nat) (S : MS) (hS : S[id]? = some (.cells (encTb t).cells)) : MCalls Tryz.prog 81 [encTb o, .ref id 0] S fun v σ' => v = .bool (decide (o.1 = t.1)) ∧ σ' = S := by
 obtain ⟨xn, xl, ⟨xk, xi⟩⟩ := o
 obtain ⟨tn, tl, ⟨tk, ti⟩⟩ := t
 refine zR Tryz.func81 V Tryz.ntmps81 (zA V) ?_
 refine zB <| qR V <| qB V V V V V <| qA V V V <| qN <| zB <| qR V <| qF V V V fo55_0 <| qL V V V V ta9 V <| qF V V V fo55_0 <| qO V <| zA2 V V hS ta9 V <| qO V <| zB3 V V V (strEq_D _ _) <| qA V V V <| qN <| zH ?_
 exact zT (.inr V) Tryz.results81 V (.of_eq (V)) (.bool _) Vv
theorem _root_.zJ4 : type_of% @Tryz.results22 := @Tryz.results22
theorem right_spec (l : List Tbl) (S : MS) : MCalls Tryz.prog 22 [.lst none 4 (l.map encTb)] S fun v σ' => v = .bool (rightF l) ∧ σ' = S := by
 refine zR Tryz.func22 V Tryz.ntmps22 (zA V) ?_
 refine zZ3 (t := 0) V fun hlen => ?_
 rw [zF] at hlen
 have hml : (l.map encTb).length = l.length := zF ..
 refine zB <| qR V <| qA V V V <| qN <| zB <| zB <| qR V <| qM V V V <| qE V V zJ2 V <| qM V V V <| qN <| zB0 ?_
 refine zO4 (α := Nat) [(0, _), (8, _), (9, _)] (fun i => [(10, .int .i64 (i : Int))]) (fun i => []) (fun i => i ≤ l.length ∧ ∀ j < i, rightAt l j = true) (fun i => l.length - i) (0) (Nat.le_refl _) (.keep V (.keep V (.keep V (.nil)))) (.keep V (.nil)) (⟨by omega, fun j hj => by omega⟩) (V) ?_
 rintro i ⟨hi, hd⟩
 refine zB <| qR V <| qC V V V V V <| qN <| zB ?_
 refine zM V (fun h11 => ?_) (fun h11 => ?_)
 ·
  rw [zF] at h11
  have hlt : i < l.length := by simpa using h11
  obtain ⟨x, hs⟩ : ∃ x, l[i]? = some x := ⟨_, zC hlt⟩
  obtain ⟨xn, xl, ⟨xk, xi⟩⟩ := x
  have hat : rightAt l i = (goodT (xn, xl, .mk xk xi) && !(l.take i).any (fun o => decide (o.1 = xn))) := by simp [rightAt, hs]
  refine zX <| zB <| zB0 <| zB <| qR V <| qM V V V <| qO V <| zI V zJ2 sz55 (by decide) V V V (zM1 hs) ?_
  refine qO V <| zL V V ta55 V <| qO V <| zM0 V zm55 V V <| qA V V V <| qO V <| zZ V V V V sz55 V V (zA V) V <| qN <| zB <| qR V <| qF V V V zT4 <| qL V V V V ta53 V ?_
  refine qX V V V V co79 (levelSch_spec (.mk xk xi) _) ?_
  refine qA V V V <| qN <| zB <| qR V <| qF V V V fo55_0 <| qL V V V V ta9 V <| qO V <| zO3 V zL0 V <| qC V V V V V <| qM V V V ?_
  refine zH0 (fun h22 => ?_) (fun h22 => ?_)
  ·
   obtain ⟨c, hc⟩ : ∃ c, xn = [c] := one_of (by simp at h22; omega)
   have hnm : namedT (xn, xl, Sch.mk xk xi) = (decide (97 ≤ c.toNat) && decide (c.toNat ≤ 122)) := by rw [hc]; rfl
   refine qF V V V fo55_0 <| qL V V V V ta9 V <| qO V <| zJ5 V zL0 V V V (show _ = some c by rw [hc]; rfl) ?_
   refine qC V V V V (geqN) <| qP V V V V <| qM V V V ?_
   refine zH0 (fun h28 => ?_) (fun h28 => ?_)
   ·
    refine qF V V V fo55_0 <| qL V V V V ta9 V <| qO V <| zJ5 V zL0 V V V (show _ = some c by rw [hc]; rfl) ?_
    refine qC V V V V (leqN) <| qP V V V V <| qA V V V <| qN <| zB <| qR V <| qM V V V <| qM V V V <| qO V <| zC2 V zJ2 sz55 V .none (.some V V) (by omega) (by omega) ?_
    refine qO V <| zI2 V V V ?_
    rw [show List.take (i - 0) (List.drop 0 (l.map encTb)) = (l.take i).map encTb by simp [List.map_take]]
    refine qX V V V V co80 (tbContains_spec _ (l.take i) (fun o => decide (o.1 = xn)) _ [] [.ref _ 0] co81 (fun x _ X => right1_spec x (xn, xl, .mk xk xi) _ _ (by rw [zO]; simp [List.getElem?_append_right]; rfl))) ?_
    refine qA V V V <| qN <| zB <| qR V <| qM V V V <| qO V <| zF1 V V <| qM V V V ?_
    refine zH0 (fun h41 => ?_) (fun h41 => ?_)
    ·
     refine qS V <| qP V V V V <| qM V V V <| qS V <| qS V <| qP V V V V <| qM V V V <| qT V V V V <| qT V V V V <| qS V <| qP V V V V <| qN <| zU V (V) <| zB <| qR V <| qA V V V <| qN <| zH ?_
     have hr : rightAt l i = false := by
      rw [hat]
      clear hd
      first | (simp_all [goodT, namedT]; done) | (simp_all [goodT, namedT]; omega)
     exact zT (.inr V) zJ4 V (.of_eq (by congr 1; exact (right_no hlt hr).symm)) (.bool _) Vv
    ·
     refine qM V V V <| qP V V V V <| qM V V V ?_
     refine zH0 (fun h44 => ?_) (fun h44 => ?_)
     ·
      refine qS V <| qS V <| qP V V V V <| qM V V V <| qT V V V V <| qT V V V V <| qS V <| qP V V V V <| qN <| zU V (V) <| zB <| qR V <| qA V V V <| qN <| zH ?_
      have hr : rightAt l i = false := by
       rw [hat]
       clear hd
       first | (simp_all [goodT, namedT]; done) | (simp_all [goodT, namedT]; omega)
      exact zT (.inr V) zJ4 V (.of_eq (by congr 1; exact (right_no hlt hr).symm)) (.bool _) Vv
     ·
      refine qM V V V <| qC V V V V (eqlZ) <| qP V V V V <| qM V V V ?_
      refine zH0 (fun h48 => ?_) (fun h48 => ?_)
      ·
       refine qT V V V V <| qT V V V V <| qS V <| qP V V V V <| qN <| zU V (V) <| zB <| qR V <| qA V V V <| qN <| zH ?_
       have hr : rightAt l i = false := by
        rw [hat]
        clear hd
        first | (simp_all [goodT, namedT]; done) | (simp_all [goodT, namedT]; omega)
       exact zT (.inr V) zJ4 V (.of_eq (by congr 1; exact (right_no hlt hr).symm)) (.bool _) Vv
      ·
       refine qF V V V fo55_1 <| qL V V V V ta3 V <| qM V V V <| qC V V V V (neqI) <| qM V V V ?_
       refine zH0 (fun h53 => ?_) (fun h53 => ?_)
       ·
        refine qF V V V fo55_1 <| qL V V V V ta3 V <| qC V V V V (neqI) <| qP V V V V <| qP V V V V <| qN ?_
        refine zM V (fun h58 => ?_) (fun h58 => ?_)
        ·
         refine zB <| qR V <| qA V V V <| qN <| zH ?_
         have hr : rightAt l i = false := by
          rw [hat]
          clear hd
          first | (simp_all [goodT, namedT]; done) | (simp_all [goodT, namedT]; omega)
         exact zT (.inr V) zJ4 V (.of_eq (by congr 1; exact (right_no hlt hr).symm)) (.bool _) Vv
        ·
         refine zX <| qR V <| qO V <| zH1 V V V V <| qM V V V <| qN ?_
         refine ⟨i + 1, _, by omega, ⟨by omega, right_step hd (by rw [hat]; clear hd; first | (simp_all [goodT, namedT]; done) | (simp_all [goodT, namedT]; omega))⟩, rfl, .nil, (.old V V (.old V V (.old V V (.nil)))), (.new' V (zH2 hlt (by omega)) (.int _ _) (.nil))⟩
       ·
        refine qS V <| qS V <| qS V <| qP V V V V <| qP V V V V <| qN <| zK V (V) <| zX <| qR V <| qO V <| zH1 V V V V <| qM V V V <| qN ?_
        refine ⟨i + 1, _, by omega, ⟨by omega, right_step hd (by rw [hat]; clear hd; first | (simp_all [goodT, namedT]; done) | (simp_all [goodT, namedT]; omega))⟩, rfl, .nil, (.old V V (.old V V (.old V V (.nil)))), (.new' V (zH2 hlt (by omega)) (.int _ _) (.nil))⟩
   ·
    refine qT V V V V <| qP V V V V <| qA V V V <| qN <| zB <| qR V <| qM V V V <| qM V V V <| qO V <| zC2 V zJ2 sz55 V .none (.some V V) (by omega) (by omega) ?_
    refine qO V <| zI2 V V V ?_
    rw [show List.take (i - 0) (List.drop 0 (l.map encTb)) = (l.take i).map encTb by simp [List.map_take]]
    refine qX V V V V co80 (tbContains_spec _ (l.take i) (fun o => decide (o.1 = xn)) _ [] [.ref _ 0] co81 (fun x _ X => right1_spec x (xn, xl, .mk xk xi) _ _ (by rw [zO]; simp [List.getElem?_append_right]; rfl))) ?_
    refine qA V V V <| qN <| zB <| qR V <| qM V V V <| qO V <| zF1 V V <| qM V V V <| qS V <| qP V V V V <| qM V V V <| qS V <| qS V <| qP V V V V <| qM V V V <| qT V V V V <| qT V V V V ?_
    refine qS V <| qP V V V V <| qN <| zU V (V) <| zB <| qR V <| qA V V V <| qN <| zH ?_
    have hr : rightAt l i = false := by
     rw [hat]
     clear hd
     first | (simp_all [goodT, namedT]; done) | (simp_all [goodT, namedT]; omega)
    exact zT (.inr V) zJ4 V (.of_eq (by congr 1; exact (right_no hlt hr).symm)) (.bool _) Vv
  ·
   have hnm : namedT (xn, xl, Sch.mk xk xi) = false := named_len (by show ¬ xn.length = 1; simp at h22; omega)
   refine qT V V V V <| qP V V V V <| qM V V V <| qT V V V V <| qP V V V V <| qA V V V <| qN <| zB <| qR V <| qM V V V <| qM V V V <| qO V <| zC2 V zJ2 sz55 V .none (.some V V) (by omega) (by omega) ?_
   refine qO V <| zI2 V V V ?_
   rw [show List.take (i - 0) (List.drop 0 (l.map encTb)) = (l.take i).map encTb by simp [List.map_take]]
   refine qX V V V V co80 (tbContains_spec _ (l.take i) (fun o => decide (o.1 = xn)) _ [] [.ref _ 0] co81 (fun x _ X => right1_spec x (xn, xl, .mk xk xi) _ _ (by rw [zO]; simp [List.getElem?_append_right]; rfl))) ?_
   refine qA V V V <| qN <| zB <| qR V <| qM V V V <| qO V <| zF1 V V <| qM V V V <| qS V <| qP V V V V <| qM V V V <| qS V <| qS V <| qP V V V V <| qM V V V <| qT V V V V <| qT V V V V ?_
   refine qS V <| qP V V V V <| qN <| zU V (V) <| zB <| qR V <| qA V V V <| qN <| zH ?_
   have hr : rightAt l i = false := by
    rw [hat]
    clear hd
    first | (simp_all [goodT, namedT]; done) | (simp_all [goodT, namedT]; omega)
   exact zT (.inr V) zJ4 V (.of_eq (by congr 1; exact (right_no hlt hr).symm)) (.bool _) Vv
 ·
  rw [zF] at h11
  have hge : i = l.length := by simp at h11; omega
  refine zV1 <| zB <| qR V <| qM V V V <| qE V V zJ2 V <| qC V V V V (geqN) <| qM V V V ?_
  refine zH0 (fun h63 => ?_) (fun h63 => ?_)
  ·
   refine qM V V V <| qE V V zJ2 V <| qC V V V V (leqN) <| qP V V V V <| qA V V V <| qN <| zH ?_
   exact zT (.inr V) zJ4 V (.of_eq (by subst hge; rw [right_all hd]; simp_all)) (.bool _) Vv
  ·
   refine qS V <| qS V <| qS V <| qP V V V V <| qA V V V <| qN <| zH ?_
   exact zT (.inr V) zJ4 V (.of_eq (by subst hge; rw [right_all hd]; simp_all)) (.bool _) Vv
end Go.Proofs.YtciimaabeabkdaaGreatDoor
namespace Go.MV
open Go Go.RowKit Go.MapKept
section
abbrev ME := ByteArray × MV × Nat
theorem Rel.alloc_any {g : Gh} {σ : MS} {w : World} (h : Rel g σ w) (ob : Obj) (mo : MObj)
  (hob : ∀ g', Le g w g' (w.alloc ob) → g'.bk σ.length = some w.heap.size → g'.st w.heap.size = 0 → (w.alloc ob).heap[w.heap.size]? = some ob → ObjRel g' (w.alloc ob) (some w.heap.size) σ.length mo) :
  ∃ g', Rel g' (σ ++ [mo]) (w.alloc ob) ∧ Le g w g' (w.alloc ob) ∧ g'.bk σ.length = some w.heap.size := by
 have l1 := Le.alloc_stab h ob 0
 have r1 := h.alloc_stab ob 0
 have l2 : Le (g.stab w.heap.size 0) (w.alloc ob) ((g.stab w.heap.size 0).bind σ.length w.heap.size) (w.alloc ob) := Le.bind (r1.bkn σ.length (Nat.le_refl _))
 obtain ⟨own, ho⟩ := h.ex
 have ho' : Owns ((g.stab w.heap.size 0).bind σ.length w.heap.size) σ (w.alloc ob) own := by
  refine ho.keep (l1.trans l2) (fun id b e => ?_) (fun _ _ => V)
  have hlt := (ho.lt id b e).2.2
  refine ⟨Below.heap_alloc w ob b hlt, ?_⟩
  simp only [Gh.bind, Gh.stab]
  rw [if_neg (by omega)]
 refine ⟨(g.stab w.heap.size 0).bind σ.length w.heap.size, ⟨r1.below, r1.base, r1.fresh, fun id hid => ?_, fun t n ht => r1.lgn t n (by simp at ht; omega), ?_⟩, l1.trans l2, by simp [Gh.bind]⟩
 ·simp at hid
  simp only [Gh.bind]
  rw [if_neg (by omega)]
  exact r1.bkn id (by omega)
 ·refine ⟨fun id => if id = σ.length then some w.heap.size else own id, ⟨fun id o hid => ?_, fun i j b hi hj => ?_, fun id b hid => ?_⟩⟩
  ·by_cases e : id = σ.length
   ·subst e
    rw [List.getElem?_append_right (Nat.le_refl _)] at hid
    simp at hid
    subst hid
    simp only [if_true]
    exact hob _ (l1.trans l2) (by simp [Gh.bind]) (by simp [Gh.bind, Gh.stab]) (heap_new _ _)
   ·rw [if_neg e]
    have hlt : id < σ.length := by
     have := (zD.1 hid).1
     simp at this
     omega
    rw [List.getElem?_append_left hlt] at hid
    exact ho'.obj id o hid
  ·by_cases ei : i = σ.length <;> by_cases ej : j = σ.length
   ·omega
   ·simp only [ei, if_true] at hi
    simp only [ej, if_false] at hj
    have := (ho.lt j b hj).2.2
    injection hi with hi
    omega
   ·simp only [ej, if_true] at hj
    simp only [ei, if_false] at hi
    have := (ho.lt i b hi).2.2
    injection hj with hj
    omega
   ·simp only [ei, ej, if_false] at hi hj
    exact ho.inj i j b hi hj
  ·by_cases e : id = σ.length
   ·simp only [e, if_true] at hid
    injection hid with hid
    subst hid
    exact ⟨by simp [e], h.size, by simp⟩
   ·simp only [e, if_false] at hid
    obtain ⟨h1, h2, h3⟩ := ho'.lt id b hid
    exact ⟨by simp; omega, h2, h3⟩
theorem Rel.turn {g : Gh} {σ : MS} {w : World} (h : Rel g σ w) {id b : Nat} {mo mo' : MObj} {o0 o1 : Obj} (hσ : σ[id]? = some mo) {own : Nat → Option Nat} (ho : Owns g σ w own) (hid : own id = some b) (hst : g.st b = 0) (hb : w.heap[b]? = some o0) (hnd : ∀ x, o0 ≠ .deferred x)
  (hob : Le g w g { w with heap := w.heap.setIfInBounds b o1 } → ({ w with heap := w.heap.setIfInBounds b o1 } : World).heap[b]? = some o1 → ObjRel g { w with heap := w.heap.setIfInBounds b o1 } (some b) id mo') :
  Rel g (σ.set id mo') { w with heap := w.heap.setIfInBounds b o1 } ∧ Le g w g { w with heap := w.heap.setIfInBounds b o1 } := by
 have hlt : b < w.heap.size := (Array.getElem?_eq_some_iff.1 hb).1
 have hne : ∀ c, c ≠ b → ({ w with heap := w.heap.setIfInBounds b o1 } : World).heap[c]? = w.heap[c]? := fun c hc => by
  show (w.heap.setIfInBounds b _)[c]? = _
  rw [Array.getElem?_setIfInBounds_ne (fun e => hc e.symm)]
 have hself : ({ w with heap := w.heap.setIfInBounds b o1 } : World).heap[b]? = some o1 := by
  show (w.heap.setIfInBounds b _)[b]? = _
  rw [Array.getElem?_setIfInBounds_self_of_lt hlt]
 have hl : Le g w g { w with heap := w.heap.setIfInBounds b o1 } := by
  refine ⟨⟨rfl, rfl, fun c k hk => ⟨hk, ?_⟩, fun _ _ h => h, fun _ _ _ h => h, by simp⟩, fun c x hx => ?_⟩
  ·refine World.cell?_of_block (w := w) (hne _ ?_)
   rintro rfl
   rw [hst] at hk
   omega
  ·by_cases e : c = b
   ·subst e
    rw [hb] at hx
    injection hx with hx
    exact absurd hx (hnd x)
   ·exact (hne c e).trans hx
 have htl : id < σ.length := (zD.1 hσ).1
 have hB := (ho.lt id b hid).2.1
 refine ⟨Rel.obj_set h htl ho hl ⟨h.below.os, h.below.tape, h.below.output, by simpa using h.below.size, fun k hk => (hne k (by omega)).trans (h.below.block k hk)⟩ (fun c hc => h.fresh c (by simpa using hc)) V (fun _ _ _ => V) (fun i c hi hc => ⟨hne c ?_, rfl⟩) (hob hl hself) (fun i c hi hc e => ?_) (fun c hc => ?_), hl⟩
 ·rintro rfl
  exact hi (ho.inj _ _ _ hc hid)
 ·injection e with e
  subst e
  exact hi (ho.inj _ _ _ hc hid)
 ·injection hc with hc
  subst hc
  exact ⟨hB, by simpa using hlt⟩
def mpIdx (s : ByteArray) : List ME → Option Nat
 | [] => none
 | e :: es => if e.1 = s then some 0 else (mpIdx s es).map (· + 1)
def mpLook (s : ByteArray) : List ME → Option MV
 | [] => none
 | e :: es => if e.1 = s then some e.2.1 else mpLook s es
def mpPut (clk : Nat) (s : ByteArray) (v : MV) (es : List ME) : List ME := match mpIdx s es with
 | some i => es.modify i fun e => (e.1, v, e.2.2)
 | none => es ++ [(s, v, clk)]
def mpClk (clk : Nat) (s : ByteArray) (es : List ME) : Nat := match mpIdx s es with
 | some _ => clk
 | none => clk + 1
theorem mpIdx_some {s : ByteArray} : ∀ {es : List ME} {i : Nat}, mpIdx s es = some i → ∃ v n, es[i]? = some (s, v, n) ∧ mpLook s es = some v
 | [], i, h => by cases h
 | (k, v, n) :: es, i, h => by
  simp only [mpIdx] at h
  by_cases e : k = s
  ·rw [if_pos e] at h
   injection h with h
   subst h e
   exact ⟨v, n, rfl, by simp [mpLook]⟩
  ·rw [if_neg e] at h
   cases hi : mpIdx s es with
   | none => rw [hi] at h; cases h
   | some j =>
    rw [hi] at h
    injection h with h
    subst h
    obtain ⟨u, m, h1, h2⟩ := mpIdx_some hi
    exact ⟨u, m, by simpa using h1, by simp [mpLook, e, h2]⟩
theorem mpIdx_none {s : ByteArray} : ∀ {es : List ME}, mpIdx s es = none → (∀ e ∈ es, e.1 ≠ s) ∧ mpLook s es = none
 | [], h => ⟨by simp, rfl⟩
 | (k, v, n) :: es, h => by
  simp only [mpIdx] at h
  by_cases e : k = s
  ·rw [if_pos e] at h; cases h
  ·rw [if_neg e] at h
   cases hi : mpIdx s es with
   | some j => rw [hi] at h; cases h
   | none =>
    obtain ⟨h1, h2⟩ := mpIdx_none hi
    refine ⟨fun x hx => ?_, by simp [mpLook, e, h2]⟩
    rcases List.mem_cons.1 hx with rfl | hx
    ·exact e
    ·exact h1 x hx
theorem MapRel.get {g : Gh} {w : World} {es : List ME} {ents : List MapEntry} (h : MapRel g w es ents) {j : Nat} {e : ME} (he : es[j]? = some e) : ∃ x, ents[j]? = some x ∧ x.key = .string e.1 ∧ x.born = e.2.2 ∧ Rd g w e.2.1 x.val := by
 have hlt : j < ents.length := by rw [h.1]; exact (zD.1 he).1
 obtain ⟨h1, h2⟩ := h.2 j e ents[j] he (zC hlt)
 exact ⟨_, zC hlt, h1.1, h1.2, h2⟩
theorem MapRel.get' {g : Gh} {w : World} {es : List ME} {ents : List MapEntry} (h : MapRel g w es ents) {j : Nat} {x : MapEntry} (hx : ents[j]? = some x) : ∃ e, es[j]? = some e ∧ x.key = .string e.1 ∧ x.born = e.2.2 ∧ Rd g w e.2.1 x.val := by
 have hlt : j < es.length := by rw [← h.1]; exact (zD.1 hx).1
 obtain ⟨h1, h2⟩ := h.2 j es[j] x (zC hlt) hx
 exact ⟨_, zC hlt, h1.1, h1.2, h2⟩
theorem MapRel.keys {g : Gh} {w : World} {es : List ME} {ents : List MapEntry} (h : MapRel g w es ents) : ∀ x ∈ ents, IsKey .string x.key := fun x hx => by
 obtain ⟨j, hj⟩ := List.getElem?_of_mem hx
 obtain ⟨e, _, h1, _⟩ := h.get' hj
 rw [h1]
 trivial
theorem MapRel.mono {g g' : Gh} {w w' : World} (hl : Le g w g' w') {es : List ME} {ents : List MapEntry} (h : MapRel g w es ents) : MapRel g' w' es ents := ⟨h.1, fun j e x he hx => ⟨(h.2 j e x he hx).1, (h.2 j e x he hx).2.mono hl⟩⟩
theorem findNow_rel {g : Gh} {w : World} {s : ByteArray} : ∀ {es : List ME} {ents : List MapEntry} (i : Nat), MapRel g w es ents →
  (mpIdx s es = none ∧ Instr.findNow .string (.string s) ents i = some none) ∨ ∃ j x, mpIdx s es = some j ∧ ents[j]? = some x ∧ Instr.findNow .string (.string s) ents i = some (some (i + j, x.val))
 | [], [], i, h => .inl ⟨rfl, rfl⟩
 | [], x :: ents, i, h => by have := h.1; simp at this
 | e :: es, [], i, h => by have := h.1; simp at this
 | e :: es, x :: ents, i, h => by
  obtain ⟨⟨h1, _⟩, h2⟩ := h.2 0 e x rfl rfl
  have ht : MapRel g w es ents := ⟨by simpa using h.1, fun j e x he hx => h.2 (j + 1) e x (by simpa using he) (by simpa using hx)⟩
  have hs : Instr.sameNow .string (.string s) x.key = some (s == e.1) := by rw [h1]; rfl
  by_cases hk : e.1 = s
  ·right
   have hb : (s == e.1) = true := (bytes_beq _ _).2 hk.symm
   exact ⟨0, x, by simp [mpIdx, hk], rfl, by simp only [Instr.findNow, hs, hb]; rfl⟩
  ·have hb : (s == e.1) = false := by
    cases hq : (s == e.1) with
    | false => rfl
    | true => exact absurd ((bytes_beq _ _).1 hq).symm hk
   rcases findNow_rel (s := s) (i + 1) ht with ⟨k1, k2⟩ | ⟨j, y, k1, k2, k3⟩
   ·left
    exact ⟨by simp [mpIdx, hk, k1], by simp only [Instr.findNow, hs, hb]; exact k2⟩
   ·right
    refine ⟨j + 1, y, by simp [mpIdx, hk, k1], by simpa using k2, ?_⟩
    simp only [Instr.findNow, hs, hb]
    rw [k3, show i + 1 + j = i + (j + 1) by omega]
def zeroV (P : Program) (t : TypeId) : Option MV := match P.info? t with
 | some i => match i.zero with
  | some z => constMV z
  | none => none
 | none => none
theorem zeroV_some {P : Program} {t : TypeId} {m : MV} (h : zeroV P t = some m) : ∃ z, (∀ w, (zeroValue t).run P w = .ok z w) ∧ ∀ g w, Rd g w m z := by
 unfold zeroV at h
 split at h
 ·rename_i i hi
  split at h
  ·rename_i z hz
   exact ⟨z, fun w => by simp [zeroValue, typeInfo, hi, hz], fun g w => zS5 _ _ h⟩
  ·cases h
 ·cases h
def mapTy (P : Program) (t e : TypeId) : Bool := match P.underlying t with
 | some (.map k e') => Nat.beq e' e && (match P.underlying k with | some .string => true | _ => false)
 | _ => false
theorem mapTy_spec {P : Program} {t e : TypeId} (h : mapTy P t e = true) : ∃ k, P.underlying t = some (.map k e) ∧ P.underlying k = some .string := by
 unfold mapTy at h
 split at h
 ·rename_i k e' hu
  simp only [Bool.and_eq_true] at h
  have := Nat.eq_of_beq_eq_true h.1
  subst this
  refine ⟨k, hu, ?_⟩
  have h2 := h.2
  split at h2
  ·assumption
  ·cases h2
 ·cases h
section
variable {P : Program} {rd : Option Nat} {o : Oper} {env : Env} {σ : MS} {K : MV → MS → Prop}
theorem rel_map {g : Gh} {w : World} (hr : Rel g σ w) {id clk : Nat} {es : List ME} {v : Value} (hv : Rd g w (.map id) v) (hσ : σ[id]? = some (.mp clk es)) :
  ∃ b ents own, v = .map (some b) ∧ Owns g σ w own ∧ own id = some b ∧ g.bk id = some b ∧ g.st b = 0 ∧ w.heap[b]? = some (.map ents clk) ∧ MapRel g w es ents.toList := by
 obtain ⟨b, hb, rfl⟩ := hv.inv_map
 obtain ⟨own, ho⟩ := hr.ex
 obtain ⟨b', ents, h1, h2, h3, h4, h5⟩ := ho.obj _ _ hσ
 rw [hb] at h2
 injection h2 with h2
 subst h2
 exact ⟨b, ents, own, rfl, ho, h1, hb, h3, h4, h5⟩
theorem op_makeMap {t : TypeId} (ho : o.op = .makeMap t none) (h : K (.map σ.length) (σ ++ [.mp 0 []])) : OpWp P rd o env σ K := by
 refine OpWp.of_run (by simp [ho]) fun g w a hr hop => ?_
 obtain ⟨g', h1, h2, h3⟩ := hr.alloc_any (.map #[] 0) (.mp 0 []) fun g' hl hb hst hh => ⟨w.heap.size, #[], rfl, hb, hst, hh, rfl, fun j e x he => by simp at he⟩
 refine ⟨.map (some w.heap.size), w.alloc (.map #[] 0), ?_, _, _, g', h, h1, .map _ _ h3, h2⟩
 simp [execOp, ho, Instr.makeMap, newObj]
 rfl
theorem run_lookup {g : Gh} {w : World} {t e : TypeId} {clk b : Nat} {es : List ME} {ents : Array MapEntry} {s : ByteArray} {z : MV} {c : Bool} (ht : mapTy P t e = true) (hz : zeroV P e = some z) (hb : w.heap[b]? = some (.map ents clk)) (hm : MapRel g w es ents.toList) :
  ∃ v, (Instr.lookup t (.map (some b)) (.string s) c).run P w = .ok (if c then .tuple #[v, .bool (mpLook s es).isSome] else v) w ∧ Rd g w ((mpLook s es).getD z) v := by
 obtain ⟨k, hu, hk⟩ := mapTy_spec ht
 obtain ⟨zv, hz1, hz2⟩ := zeroV_some hz
 have hck : (Instr.checkKey ents.isEmpty 10000 k (.string s)).run P w = .ok () w := run_checkKey hk (k := .string s) trivial _ 9999
 rcases findNow_rel (s := s) 0 hm with ⟨h1, h2⟩ | ⟨j, x, h1, h2, h3⟩
 ·refine ⟨zv, ?_, ?_⟩
  ·have hf := run_findKey (P := P) (w := w) hk h2
   rw [(mpIdx_none h1).2]
   simp [Instr.lookup, run_underlying hu, MapKept.run_getObj_map hb, hck, hf, hz1, Result.andThen]
  ·rw [(mpIdx_none h1).2]
   exact hz2 g w
 ·obtain ⟨v, n, k1, k2⟩ := mpIdx_some h1
  obtain ⟨y, q1, q2, q3, q4⟩ := hm.get k1
  rw [h2] at q1
  injection q1 with q1
  subst q1
  refine ⟨x.val, ?_, ?_⟩
  ·have hf := run_findKey (P := P) (w := w) hk h3
   rw [k2]
   simp [Instr.lookup, run_underlying hu, MapKept.run_getObj_map hb, hck, hf, Result.andThen]
  ·rw [k2]
   exact q4
theorem op_lookup {t e : TypeId} {x y : Operand} {id clk : Nat} {es : List ME} {s : ByteArray} {z m : MV} (ho : o.op = .lookup t x y false) (ht : mapTy P t e = true) (hz : zeroV P e = some z) (hx : evo env x = some (.map id)) (hy : evo env y = some (.str s)) (hσ : σ[id]? = some (.mp clk es))
  (hm : (mpLook s es).getD z = m) (h : K m σ) : OpWp P rd o env σ K := by
 refine OpWp.of_run (by simp [ho]) fun g w a hr hop => ?_
 obtain ⟨b, ents, own, e1, h1, h2, h3, h4, h5, h6⟩ := rel_map hr (hop x (by simp [ho, Op.operands]) _ hx) hσ
 have e2 := (hop y (by simp [ho, Op.operands]) _ hy).inv_str
 obtain ⟨v, hv, hrd⟩ := run_lookup (P := P) (s := s) (c := false) ht hz h5 h6
 rw [hm] at hrd
 exact ⟨v, w, by simp [execOp, ho, e1, e2, hv], .same h hr hrd⟩
theorem op_lookup_ok {t e : TypeId} {x y : Operand} {id clk : Nat} {es : List ME} {s : ByteArray} {z m : MV} {c : Bool} (ho : o.op = .lookup t x y true) (ht : mapTy P t e = true) (hz : zeroV P e = some z) (hx : evo env x = some (.map id)) (hy : evo env y = some (.str s)) (hσ : σ[id]? = some (.mp clk es))
  (hm : (mpLook s es).getD z = m) (hc : (mpLook s es).isSome = c) (h : K (.tup [m, .bool c]) σ) : OpWp P rd o env σ K := by
 refine OpWp.of_run (by simp [ho]) fun g w a hr hop => ?_
 obtain ⟨b, ents, own, e1, h1, h2, h3, h4, h5, h6⟩ := rel_map hr (hop x (by simp [ho, Op.operands]) _ hx) hσ
 have e2 := (hop y (by simp [ho, Op.operands]) _ hy).inv_str
 obtain ⟨v, hv, hrd⟩ := run_lookup (P := P) (s := s) (c := true) ht hz h5 h6
 rw [hm] at hrd
 rw [hc] at hv
 exact ⟨.tuple #[v, .bool c], w, by simp [execOp, ho, e1, e2, hv], .same h hr (.tup' (.cons hrd (.cons (.bool _) (.nil _ _))))⟩
theorem _root_.zO5 : type_of% @op_lookup_ok := @op_lookup_ok
theorem MapRel.push {g : Gh} {w : World} {es : List ME} {ents : Array MapEntry} (h : MapRel g w es ents.toList) {s : ByteArray} {m : MV} {v : Value} {n : Nat} (hr : Rd g w m v) : MapRel g w (es ++ [(s, m, n)]) (ents.push { key := .string s, val := v, born := n }).toList := by
 refine ⟨by simpa using h.1, fun j e x he hx => ?_⟩
 have hl := h.1
 rw [Array.toList_push] at hx
 by_cases hj : j < es.length
 ·rw [List.getElem?_append_left hj] at he
  rw [List.getElem?_append_left (by omega)] at hx
  exact h.2 j e x he hx
 ·rw [List.getElem?_append_right (by omega)] at he
  rw [List.getElem?_append_right (by omega), hl] at hx
  have : j - es.length = 0 := by
   have := (zD.1 he).1
   simp at this
   omega
  rw [this] at he hx
  simp at he hx
  subst he hx
  exact ⟨⟨rfl, rfl⟩, hr⟩
theorem MapRel.modify {g : Gh} {w : World} {es : List ME} {ents : Array MapEntry} (h : MapRel g w es ents.toList) {i : Nat} {f : ME → ME} {f' : MapEntry → MapEntry} (hf : ∀ e x, es[i]? = some e → ents.toList[i]? = some x → ((f' x).key = .string (f e).1 ∧ (f' x).born = (f e).2.2) ∧ Rd g w (f e).2.1 (f' x).val) : MapRel g w (es.modify i f) (ents.modify i f').toList := by
 refine ⟨by simpa using h.1, fun j e x he hx => ?_⟩
 rw [Array.toList_modify] at hx
 rw [List.getElem?_modify] at he hx
 by_cases hj : i = j
 ·subst hj
  simp only [if_true] at he hx
  cases he' : es[i]? with
  | none => rw [he'] at he; cases he
  | some e0 =>
   cases hx' : ents.toList[i]? with
   | none => rw [hx'] at hx; cases hx
   | some x0 =>
    rw [he'] at he
    rw [hx'] at hx
    simp at he hx
    subst he hx
    exact hf e0 x0 he' hx'
 ·simp only [if_neg hj] at he hx
  exact h.2 j e x (by simpa using he) (by simpa using hx)
theorem op_mapUpdate {t e : TypeId} {x y u : Operand} {id clk : Nat} {es : List ME} {s : ByteArray} {m : MV} (ho : o.op = .mapUpdate t x y u ∨ o.op = .insert t x y u) (ht : mapTy P t e = true) (hx : evo env x = some (.map id)) (hy : evo env y = some (.str s)) (hu : evo env u = some m) (hσ : σ[id]? = some (.mp clk es))
  (h : K (.tup []) (σ.set id (.mp (mpClk clk s es) (mpPut clk s m es)))) : OpWp P rd o env σ K := by
 have hopd : o.op.operands = #[x, y, u] := by rcases ho with ho | ho <;> rw [ho] <;> rfl
 refine OpWp.of_skip (by rcases ho with ho | ho <;> simp [ho]) fun g w a hr hop => ?_
 obtain ⟨b, ents, own, e1, h1, h2, h3, h4, h5, h6⟩ := rel_map hr (hop x (by simp [hopd]) _ hx) hσ
 have e2 := (hop y (by simp [hopd]) _ hy).inv_str
 have e3 := hop u (by simp [hopd]) _ hu
 obtain ⟨k, hu, hk⟩ := mapTy_spec ht
 have hck : (Instr.checkKey false 10000 k (.string s)).run P w = .ok () w := run_checkKey hk (k := .string s) trivial _ 9999
 have hex : ∀ w', (Instr.mapUpdate t (.map (some b)) (.string s) (a.eval u)).run P w = .ok () w' → (execOp a.eval o).run P w = .ok .skip w' := fun w' hw => by rcases ho with ho | ho <;> simp [execOp, ho, e1, e2, hw]
 rcases findNow_rel (s := s) 0 h6 with ⟨k1, k2⟩ | ⟨j, xe, k1, k2, k3⟩
 ·obtain ⟨r1, l1⟩ := hr.turn (mo' := .mp (clk + 1) (es ++ [(s, m, clk)])) (o1 := .map (ents.push { key := .string s, val := a.eval u, born := clk }) (clk + 1)) hσ h1 h2 h4 h5 (fun _ h => by cases h) fun hl hh => ⟨b, _, rfl, hl.bk _ _ h3, h4, hh, (h6.mono hl).push (e3.mono hl)⟩
  refine ⟨_, hex _ ?_, .tup [], _, g, h, ?_, .tup' (.nil _ _), l1⟩
  ·have hf := run_findKey (P := P) (w := w) hk k2
   simp [Instr.mapUpdate, run_underlying hu, MapKept.run_getObj_map h5, hck, hf, MapKept.run_setObj_map _ h5, Result.andThen, h5] <;> skip
  ·simp only [mpClk, mpPut, k1]
   exact r1
 ·have hl : j < ents.size := by have := (zD.1 k2).1; simpa using this
  have hxj : ents[j]? = some xe := by simpa using k2
  obtain ⟨v, n, q1, q2⟩ := mpIdx_some k1
  obtain ⟨y', q3, q4, q5, q6⟩ := h6.get q1
  rw [k2] at q3
  injection q3 with q3
  subst q3
  obtain ⟨r1, l1⟩ := hr.turn (mo' := .mp clk (es.modify j fun e => (e.1, m, e.2.2))) (o1 := .map (ents.modify j fun e => { e with key := .string s, val := a.eval u }) clk) hσ h1 h2 h4 h5 (fun _ h => by cases h) fun hl hh => ⟨b, _, rfl, hl.bk _ _ h3, h4, hh, (h6.mono hl).modify fun e x he hx => by
   rw [q1] at he
   injection he with he
   subst he
   rw [k2] at hx
   injection hx with hx
   subst hx
   exact ⟨⟨rfl, q5⟩, e3.mono hl⟩⟩
  refine ⟨_, hex _ ?_, .tup [], _, g, h, ?_, .tup' (.nil _ _), l1⟩
  ·have hf := run_findKey (P := P) (w := w) hk k3
   have hstay := run_keyThatStays (P := P) (w := w) (d := .string) (k := .string s) trivial
   simp [Instr.mapUpdate, run_underlying hu, MapKept.run_getObj_map h5, hck, hf, hxj, q4, hstay, MapKept.run_setObj_map _ h5, Result.andThen]
  ·simp only [mpClk, mpPut, k1]
   exact r1
end
end
end Go.MV
namespace Go.Proofs.YtciimaabeabkdaaGreatDoor
open Go Go.MV
def bothX : List Bs → List Bs → List Bs
 | [], [] => []
 | x :: a, [] => x :: bothX a []
 | [], y :: b => y :: bothX [] b
 | x :: a, y :: b => if Op.bytesLess x y then x :: bothX a (y :: b) else if Op.bytesLess y x then y :: bothX (x :: a) b else x :: bothX a b
 termination_by a b => a.length + b.length
theorem len_snoc {α : Type} {l : List α} {x : α} : (l ++ [x]).length = l.length + 1 := by simp
theorem getDJ_of {α : Type} {l : List α} {i : Nat} {a d : α} (h : l[i]? = some a) : l.getD i d = a := by simp [h]
theorem _root_.zU2 : type_of% @getDJ_of := @getDJ_of
theorem drop_getD {l : List Bs} {i : Nat} (h : i < l.length) : l.drop i = l.getD i [] :: l.drop (i + 1) := by
 rw [List.drop_eq_getElem_cons h]; simp [h]
theorem both_end : bothX [] [] = [] := by rw [bothX]
theorem both_A {a b : List Bs} {i k : Nat} (hi : i < a.length) (hk : k ≤ b.length) (h : k = b.length ∨ Op.bytesLess (a.getD i []) (b.getD k []) = true) : bothX (a.drop i) (b.drop k) = a.getD i [] :: bothX (a.drop (i + 1)) (b.drop k) := by
 rw [drop_getD hi]
 by_cases e : k = b.length
 ·rw [e, List.drop_length, bothX]
 ·have hkb : k < b.length := by omega
  rw [drop_getD hkb, bothX, if_pos (h.resolve_left e)]
theorem both_B {a b : List Bs} {i k : Nat} (hk : k < b.length) (hi : i ≤ a.length) (h : i = a.length ∨ (Op.bytesLess (a.getD i []) (b.getD k []) = false ∧ Op.bytesLess (b.getD k []) (a.getD i []) = true)) : bothX (a.drop i) (b.drop k) = b.getD k [] :: bothX (a.drop i) (b.drop (k + 1)) := by
 rw [drop_getD hk]
 by_cases e : i = a.length
 ·rw [e, List.drop_length, bothX]
 ·have hia : i < a.length := by omega
  obtain ⟨h1, h2⟩ := h.resolve_left e
  rw [drop_getD hia, bothX, if_neg (fun hh => by rw [h1] at hh; cases hh), if_pos h2]
theorem both_C {a b : List Bs} {i k : Nat} (hi : i < a.length) (hk : k < b.length) (h1 : Op.bytesLess (a.getD i []) (b.getD k []) = false) (h2 : Op.bytesLess (b.getD k []) (a.getD i []) = false) : bothX (a.drop i) (b.drop k) = a.getD i [] :: bothX (a.drop (i + 1)) (b.drop (k + 1)) := by
 rw [drop_getD hi, drop_getD hk, bothX, if_neg (fun hh => by rw [h1] at hh; cases hh), if_neg (fun hh => by rw [h2] at hh; cases hh)]
theorem both_len : ∀ a b : List Bs, (bothX a b).length ≤ a.length + b.length := by
 intro a b
 induction a, b using bothX.induct with
 | case1 => simp [bothX]
 | case2 x a ih => rw [bothX]; simp at ih ⊢; omega
 | case3 y b ih => rw [bothX]; simp at ih ⊢; omega
 | case4 x a y b h ih => rw [bothX, if_pos h]; simp at ih ⊢; omega
 | case5 x a y b h h2 ih => rw [bothX, if_neg h, if_pos h2]; simp at ih ⊢; omega
 | case6 x a y b h h2 ih => rw [bothX, if_neg h, if_neg h2]; simp at ih ⊢; omega
theorem _root_.zF2 : type_of% @Tryz.results295 := @Tryz.results295
theorem with_iter (a b : List Bs) (hab : a.length + b.length ≤ 1000000) (ida idb l0 : Nat) : IterOk Tryz.prog 295 [] [.ref ida 0, .ref idb 0] ((bothX a b).map fun x => [encX x]) (fun σ => σ.length = l0 ∧ σ[ida]? = some (.cells [.lst none 1 (a.map encX)]) ∧ σ[idb]? = some (.cells [.lst none 1 (b.map encX)])) := by
 refine iterOk_of fun id T m hok hm hyt hyf => ?_
 have hml : ((bothX a b).map fun x => [encX x]).length = (bothX a b).length := zF ..
 refine zR Tryz.func295 V Tryz.ntmps295 (zA V) ?_
 rw [List.append_nil]
 show mwp _ _ _ _ _ _ _ (([] : MS) ++ T 0)
 refine zB <| qR V <| qA V V V <| qA V V V <| qN <| zB0 ?_
 refine zK2 (α := Nat × Nat × Nat) [(0, _), (1, _), (2, _)] (fun x => [(4, .int .i64 (x.2.1 : Int)), (5, .int .i64 (x.2.2 : Int))]) (fun x => T x.1) (fun x => x.1 ≤ m ∧ x.2.1 ≤ a.length ∧ x.2.2 ≤ b.length ∧ bothX (a.drop x.2.1) (b.drop x.2.2) = (bothX a b).drop x.1) (fun x => a.length - x.2.1 + (b.length - x.2.2)) (⟨0, 0, 0⟩) (.keep V (.keep V (.keep V (.nil)))) (.keep V (.keep V (.nil))) (⟨by simp, by simp, by simp, rfl⟩) (V) ?_
 rintro ⟨j, i, k⟩ ⟨hj, hi, hk, he⟩
 dsimp only at hj hi hk he ⊢
 refine zB <| zB <| qR V <| qM V V V <| qO V <| zJ V V ((hok _).2.1) ta252 V <| qE V V zJ0 V <| qC V V V V V <| qM V V V ?_
 refine zH0 (fun h11 => ?_) (fun h11 => ?_)
 ·
  have hia : i < a.length := by rw [zF] at h11; simpa using h11
  refine qT V V V V <| qP V V V V <| qN <| zU V (V) <| zX <| zB0 <| zB <| qR V <| qA V V V <| qN <| zB <| zB0 <| zB ?_
  refine zW0 [] [_] mo (by decide) V V V V ?_
  refine dO V V V (zY V V Vv) <| dO V V V (zJ V V ((hok _).2.2) ta252 V Vv) <| dO V V V (zU1 V zJ0 V Vv) <| dO V V V (zR2 V V V V Vv) <| dO V V V (zY V V Vv) ?_
  refine zR3 (fun h30 => ?_) (fun h30 => ?_)
  ·
   have hk2 : k = b.length := by rw [zF] at h30; simp at h30; omega
   refine dS V V <| dS V V <| dS V V <| dS V V <| dS V V <| dS V V <| dS V V <| dS V V <| dS V V <| dS V V <| dS V V <| dS V V <| dS V V <| dS V V <| dS V V <| dO V V V (zP1 V V V Vv) <| dO V V V (zZ0 V V Vv) <| zQ0 <| zU V (V) <| zB ?_
   obtain ⟨x, hs⟩ : ∃ q, a[i]? = some q := ⟨_, zC (by omega)⟩
   have hgx := zU2 (d := []) hs
   refine qR V <| qO V <| zJ V V ((hok _).2.1) ta252 V <| qM V V V <| qO V <| zI V zJ0 sz9 (by decide) V V V (zM1 hs) ?_
   refine qO V <| zL V V ta9 V <| qA V V V <| qN <| qR V <| qM V V V <| qO V <| zH1 V V V (wadd (a := i) (b := 1) V (by omega)) ?_
   refine qA V V V ?_
   have hnx := he
   rw [both_A (by omega) (by omega) (by first | exact .inl hk2 | exact .inr hlt), hgx] at hnx
   obtain ⟨hy, hnx⟩ := zQ1 hnx
   replace hy : ((bothX a b).map fun x => [encX x])[j]? = some [encX x] := by rw [zI0, hy]; rfl
   have hjl := (zD.1 hy).1
   refine qN <| zB ?_
   rcases Nat.lt_or_eq_of_le hj with hjm | hjm
   ·
    refine qR V <| qM V V V <| qM V V V <| qO V <| ((hyt j _ hjm hy).at0 V V V).mono ?_
    rintro _ _ ⟨rfl, rfl⟩
    refine qO V <| zF1 V V <| qN <| zK V (V) <| zX ?_
    refine ⟨⟨j + 1, _, _⟩, by dsimp only; omega, ⟨by dsimp only; omega, by dsimp only; omega, by dsimp only; omega, hnx⟩, rfl, (.keep V (.keep V (.keep V (.nil)))), (.eq V (V) (.eq V (V) (.nil)))⟩
   ·
    refine qR V <| qM V V V <| qM V V V <| qO V <| ((hyf j _ hjm hy).at0 V V V).mono ?_
    rintro _ _ ⟨rfl, rfl⟩
    refine qO V <| zF1 V V <| qN <| zU V (V) ?_
    refine zG1 fun hcv hcl => ?_
    refine zH ?_
    exact zV2 (S' := T (j + 1)) (by simp) zF2 (by rw [(hok _).1, (hok _).1]; exact Nat.le_refl _) hcl ⟨rfl, by rw [hjm, if_pos (by omega)]⟩
  ·
   have hk2 : ¬ k = b.length := by rw [zF] at h30; simp at h30; omega
   refine dO V V V (zY V V Vv) <| dO V V V (zJ V V ((hok _).2.1) ta252 V Vv) <| dO V V V (zU1 V zJ0 V Vv) <| dO V V V (zR2 V V V V Vv) <| dO V V V (zY V V Vv) ?_
   refine zR3 (fun h35 => ?_) (fun h35 => ?_)
   ·
    have hia2 : i < a.length := by rw [zF] at h35; simpa using h35
    obtain ⟨x, hs⟩ : ∃ q, a[i]? = some q := ⟨_, zC (by omega)⟩
    have hgx := zU2 (d := []) hs
    obtain ⟨y, hs2⟩ : ∃ q, b[k]? = some q := ⟨_, zC (by omega)⟩
    have hgy := zU2 (d := []) hs2
    refine dO V V V (zJ V V ((hok _).2.1) ta252 V Vv) <| dO V V V (zY V V Vv) <| dO V V V (zI V zJ0 sz9 (by decide) V V V (zM1 hs) Vv) ?_
    refine dO V V V (zL V V ta9 V Vv) <| dO V V V (zJ V V ((hok _).2.2) ta252 V Vv) <| dO V V V (zY V V Vv) <| dO V V V (zI V zJ0 sz9 (by decide) V V V (zM1 hs2) Vv) ?_
    refine dO V V V (zL V V ta9 V Vv) <| dO V V V (zB3 V V V V Vv) <| dO V V V (zP1 V V V Vv) <| dO V V V (zP1 V V V Vv) <| dO V V V (zZ0 V V Vv) <| zQ0 ?_
    refine zM V (fun h25 => ?_) (fun h25 => ?_)
    ·
     have hlt : Op.bytesLess (a.getD i []) (b.getD k []) = true := by rw [hgx, hgy]; simpa using h25
     refine zB ?_
     obtain ⟨x, hs⟩ : ∃ q, a[i]? = some q := ⟨_, zC (by omega)⟩
     have hgx := zU2 (d := []) hs
     refine qR V <| qO V <| zJ V V ((hok _).2.1) ta252 V <| qM V V V <| qO V <| zI V zJ0 sz9 (by decide) V V V (zM1 hs) ?_
     refine qO V <| zL V V ta9 V <| qA V V V <| qN <| qR V <| qM V V V <| qO V <| zH1 V V V (wadd (a := i) (b := 1) V (by omega)) ?_
     refine qA V V V ?_
     have hnx := he
     rw [both_A (by omega) (by omega) (by first | exact .inl hk2 | exact .inr hlt), hgx] at hnx
     obtain ⟨hy, hnx⟩ := zQ1 hnx
     replace hy : ((bothX a b).map fun x => [encX x])[j]? = some [encX x] := by rw [zI0, hy]; rfl
     have hjl := (zD.1 hy).1
     refine qN <| zB ?_
     rcases Nat.lt_or_eq_of_le hj with hjm | hjm
     ·
      refine qR V <| qM V V V <| qM V V V <| qO V <| ((hyt j _ hjm hy).at0 V V V).mono ?_
      rintro _ _ ⟨rfl, rfl⟩
      refine qO V <| zF1 V V <| qN <| zK V (V) <| zX ?_
      refine ⟨⟨j + 1, _, _⟩, by dsimp only; omega, ⟨by dsimp only; omega, by dsimp only; omega, by dsimp only; omega, hnx⟩, rfl, (.keep V (.keep V (.keep V (.nil)))), (.eq V (V) (.eq V (V) (.nil)))⟩
     ·
      refine qR V <| qM V V V <| qM V V V <| qO V <| ((hyf j _ hjm hy).at0 V V V).mono ?_
      rintro _ _ ⟨rfl, rfl⟩
      refine qO V <| zF1 V V <| qN <| zU V (V) ?_
      refine zG1 fun hcv hcl => ?_
      refine zH ?_
      exact zV2 (S' := T (j + 1)) (by simp) zF2 (by rw [(hok _).1, (hok _).1]; exact Nat.le_refl _) hcl ⟨rfl, by rw [hjm, if_pos (by omega)]⟩
    ·
     have hlt : Op.bytesLess (a.getD i []) (b.getD k []) = false := by rw [hgx, hgy]; simpa using h25
     refine zB ?_
     refine zW0 [] [_] mo (by decide) V V V V ?_
     refine dO V V V (zY V V Vv) <| dO V V V (zJ V V ((hok _).2.1) ta252 V Vv) <| dO V V V (zU1 V zJ0 V Vv) <| dO V V V (zR2 V V V V Vv) <| dO V V V (zY V V Vv) ?_
     refine zR3 (fun h58 => ?_) (fun h58 => ?_)
     ·
      have hia3 : i = a.length := by rw [zF] at h58; simp at h58; omega
      refine dS V V <| dS V V <| dS V V <| dS V V <| dS V V <| dS V V <| dS V V <| dS V V <| dS V V <| dO V V V (zP1 V V V Vv) <| dO V V V (zZ0 V V Vv) <| zQ0 <| zU V (V) <| zB ?_
      obtain ⟨y, hs2⟩ : ∃ q, b[k]? = some q := ⟨_, zC (by omega)⟩
      have hgy := zU2 (d := []) hs2
      refine qR V <| qO V <| zJ V V ((hok _).2.2) ta252 V <| qM V V V <| qO V <| zI V zJ0 sz9 (by decide) V V V (zM1 hs2) ?_
      refine qO V <| zL V V ta9 V <| qA V V V <| qN <| qR V <| qM V V V <| qO V <| zH1 V V V (wadd (a := k) (b := 1) V (by omega)) ?_
      refine qA V V V ?_
      have hnx := he
      rw [both_B (by omega) (by omega) (by first | exact .inl hia3 | exact .inr ⟨hlt, hgt⟩ | exact .inl (by omega)), hgy] at hnx
      obtain ⟨hy, hnx⟩ := zQ1 hnx
      replace hy : ((bothX a b).map fun x => [encX x])[j]? = some [encX y] := by rw [zI0, hy]; rfl
      have hjl := (zD.1 hy).1
      refine qN <| zB ?_
      rcases Nat.lt_or_eq_of_le hj with hjm | hjm
      ·
       refine qR V <| qM V V V <| qM V V V <| qO V <| ((hyt j _ hjm hy).at0 V V V).mono ?_
       rintro _ _ ⟨rfl, rfl⟩
       refine qO V <| zF1 V V <| qN <| zK V (V) <| zX ?_
       refine ⟨⟨j + 1, _, _⟩, by dsimp only; omega, ⟨by dsimp only; omega, by dsimp only; omega, by dsimp only; omega, hnx⟩, rfl, (.keep V (.keep V (.keep V (.nil)))), (.eq V (V) (.eq V (V) (.nil)))⟩
      ·
       refine qR V <| qM V V V <| qM V V V <| qO V <| ((hyf j _ hjm hy).at0 V V V).mono ?_
       rintro _ _ ⟨rfl, rfl⟩
       refine qO V <| zF1 V V <| qN <| zU V (V) ?_
       refine zG1 fun hcv hcl => ?_
       refine zH ?_
       exact zV2 (S' := T (j + 1)) (by simp) zF2 (by rw [(hok _).1, (hok _).1]; exact Nat.le_refl _) hcl ⟨rfl, by rw [hjm, if_pos (by omega)]⟩
     ·
      have hia3 : ¬ i = a.length := by rw [zF] at h58; simp at h58; omega
      obtain ⟨x, hs⟩ : ∃ q, a[i]? = some q := ⟨_, zC (by omega)⟩
      have hgx := zU2 (d := []) hs
      obtain ⟨y, hs2⟩ : ∃ q, b[k]? = some q := ⟨_, zC (by omega)⟩
      have hgy := zU2 (d := []) hs2
      refine dO V V V (zJ V V ((hok _).2.2) ta252 V Vv) <| dO V V V (zY V V Vv) <| dO V V V (zI V zJ0 sz9 (by decide) V V V (zM1 hs2) Vv) ?_
      refine dO V V V (zL V V ta9 V Vv) <| dO V V V (zJ V V ((hok _).2.1) ta252 V Vv) <| dO V V V (zY V V Vv) <| dO V V V (zI V zJ0 sz9 (by decide) V V V (zM1 hs) Vv) ?_
      refine dO V V V (zL V V ta9 V Vv) <| dO V V V (zB3 V V V V Vv) <| dO V V V (zP1 V V V Vv) <| dO V V V (zZ0 V V Vv) <| zQ0 ?_
      refine zM V (fun h53 => ?_) (fun h53 => ?_)
      ·
       have hgt : Op.bytesLess (b.getD k []) (a.getD i []) = true := by rw [hgx, hgy]; simpa using h53
       refine zB ?_
       obtain ⟨y, hs2⟩ : ∃ q, b[k]? = some q := ⟨_, zC (by omega)⟩
       have hgy := zU2 (d := []) hs2
       refine qR V <| qO V <| zJ V V ((hok _).2.2) ta252 V <| qM V V V <| qO V <| zI V zJ0 sz9 (by decide) V V V (zM1 hs2) ?_
       refine qO V <| zL V V ta9 V <| qA V V V <| qN <| qR V <| qM V V V <| qO V <| zH1 V V V (wadd (a := k) (b := 1) V (by omega)) ?_
       refine qA V V V ?_
       have hnx := he
       rw [both_B (by omega) (by omega) (by first | exact .inl hia3 | exact .inr ⟨hlt, hgt⟩ | exact .inl (by omega)), hgy] at hnx
       obtain ⟨hy, hnx⟩ := zQ1 hnx
       replace hy : ((bothX a b).map fun x => [encX x])[j]? = some [encX y] := by rw [zI0, hy]; rfl
       have hjl := (zD.1 hy).1
       refine qN <| zB ?_
       rcases Nat.lt_or_eq_of_le hj with hjm | hjm
       ·
        refine qR V <| qM V V V <| qM V V V <| qO V <| ((hyt j _ hjm hy).at0 V V V).mono ?_
        rintro _ _ ⟨rfl, rfl⟩
        refine qO V <| zF1 V V <| qN <| zK V (V) <| zX ?_
        refine ⟨⟨j + 1, _, _⟩, by dsimp only; omega, ⟨by dsimp only; omega, by dsimp only; omega, by dsimp only; omega, hnx⟩, rfl, (.keep V (.keep V (.keep V (.nil)))), (.eq V (V) (.eq V (V) (.nil)))⟩
       ·
        refine qR V <| qM V V V <| qM V V V <| qO V <| ((hyf j _ hjm hy).at0 V V V).mono ?_
        rintro _ _ ⟨rfl, rfl⟩
        refine qO V <| zF1 V V <| qN <| zU V (V) ?_
        refine zG1 fun hcv hcl => ?_
        refine zH ?_
        exact zV2 (S' := T (j + 1)) (by simp) zF2 (by rw [(hok _).1, (hok _).1]; exact Nat.le_refl _) hcl ⟨rfl, by rw [hjm, if_pos (by omega)]⟩
      ·
       have hgt : Op.bytesLess (b.getD k []) (a.getD i []) = false := by rw [hgx, hgy]; simpa using h53
       refine zB ?_
       obtain ⟨x, hs⟩ : ∃ q, a[i]? = some q := ⟨_, zC (by omega)⟩
       have hgx := zU2 (d := []) hs
       refine qR V <| qO V <| zJ V V ((hok _).2.1) ta252 V <| qM V V V <| qO V <| zI V zJ0 sz9 (by decide) V V V (zM1 hs) ?_
       refine qO V <| zL V V ta9 V <| qA V V V <| qN <| qR V <| qM V V V <| qO V <| zH1 V V V (wadd (a := i) (b := 1) V (by omega)) ?_
       refine qM V V V <| qO V <| zH1 V V V (wadd (a := k) (b := 1) V (by omega)) ?_
       refine qA V V V <| qA V V V ?_
       have hnx := he
       rw [both_C (by omega) (by omega) (by first | exact hlt | (exfalso; omega)) hgt, hgx] at hnx
       obtain ⟨hy, hnx⟩ := zQ1 hnx
       replace hy : ((bothX a b).map fun x => [encX x])[j]? = some [encX x] := by rw [zI0, hy]; rfl
       have hjl := (zD.1 hy).1
       refine qN <| zB ?_
       rcases Nat.lt_or_eq_of_le hj with hjm | hjm
       ·
        refine qR V <| qM V V V <| qM V V V <| qO V <| ((hyt j _ hjm hy).at0 V V V).mono ?_
        rintro _ _ ⟨rfl, rfl⟩
        refine qO V <| zF1 V V <| qN <| zK V (V) <| zX ?_
        refine ⟨⟨j + 1, _, _⟩, by dsimp only; omega, ⟨by dsimp only; omega, by dsimp only; omega, by dsimp only; omega, hnx⟩, rfl, (.keep V (.keep V (.keep V (.nil)))), (.eq V (V) (.eq V (V) (.nil)))⟩
       ·
        refine qR V <| qM V V V <| qM V V V <| qO V <| ((hyf j _ hjm hy).at0 V V V).mono ?_
        rintro _ _ ⟨rfl, rfl⟩
        refine qO V <| zF1 V V <| qN <| zU V (V) ?_
        refine zG1 fun hcv hcl => ?_
        refine zH ?_
        exact zV2 (S' := T (j + 1)) (by simp) zF2 (by rw [(hok _).1, (hok _).1]; exact Nat.le_refl _) hcl ⟨rfl, by rw [hjm, if_pos (by omega)]⟩
   ·
    have hia2 : ¬ i < a.length := by rw [zF] at h35; simp at h35; omega
    refine dS V V <| dS V V <| dS V V <| dS V V <| dS V V <| dS V V <| dS V V <| dS V V <| dS V V <| dO V V V (zP1 V V V Vv) <| dO V V V (zP1 V V V Vv) <| dO V V V (zZ0 V V Vv) <| zQ0 <| zK V (V) <| zB ?_
    refine zW0 [] [_] mo (by decide) V V V V ?_
    refine dO V V V (zY V V Vv) <| dO V V V (zJ V V ((hok _).2.1) ta252 V Vv) <| dO V V V (zU1 V zJ0 V Vv) <| dO V V V (zR2 V V V V Vv) <| dO V V V (zY V V Vv) ?_
    refine zR3 (fun h58 => ?_) (fun h58 => ?_)
    ·
     have hia3 : i = a.length := by rw [zF] at h58; simp at h58; omega
     refine dS V V <| dS V V <| dS V V <| dS V V <| dS V V <| dS V V <| dS V V <| dS V V <| dS V V <| dO V V V (zP1 V V V Vv) <| dO V V V (zZ0 V V Vv) <| zQ0 <| zU V (V) <| zB ?_
     obtain ⟨y, hs2⟩ : ∃ q, b[k]? = some q := ⟨_, zC (by omega)⟩
     have hgy := zU2 (d := []) hs2
     refine qR V <| qO V <| zJ V V ((hok _).2.2) ta252 V <| qM V V V <| qO V <| zI V zJ0 sz9 (by decide) V V V (zM1 hs2) ?_
     refine qO V <| zL V V ta9 V <| qA V V V <| qN <| qR V <| qM V V V <| qO V <| zH1 V V V (wadd (a := k) (b := 1) V (by omega)) ?_
     refine qA V V V ?_
     have hnx := he
     rw [both_B (by omega) (by omega) (by first | exact .inl hia3 | exact .inr ⟨hlt, hgt⟩ | exact .inl (by omega)), hgy] at hnx
     obtain ⟨hy, hnx⟩ := zQ1 hnx
     replace hy : ((bothX a b).map fun x => [encX x])[j]? = some [encX y] := by rw [zI0, hy]; rfl
     have hjl := (zD.1 hy).1
     refine qN <| zB ?_
     rcases Nat.lt_or_eq_of_le hj with hjm | hjm
     ·
      refine qR V <| qM V V V <| qM V V V <| qO V <| ((hyt j _ hjm hy).at0 V V V).mono ?_
      rintro _ _ ⟨rfl, rfl⟩
      refine qO V <| zF1 V V <| qN <| zK V (V) <| zX ?_
      refine ⟨⟨j + 1, _, _⟩, by dsimp only; omega, ⟨by dsimp only; omega, by dsimp only; omega, by dsimp only; omega, hnx⟩, rfl, (.keep V (.keep V (.keep V (.nil)))), (.eq V (V) (.eq V (V) (.nil)))⟩
     ·
      refine qR V <| qM V V V <| qM V V V <| qO V <| ((hyf j _ hjm hy).at0 V V V).mono ?_
      rintro _ _ ⟨rfl, rfl⟩
      refine qO V <| zF1 V V <| qN <| zU V (V) ?_
      refine zG1 fun hcv hcl => ?_
      refine zH ?_
      exact zV2 (S' := T (j + 1)) (by simp) zF2 (by rw [(hok _).1, (hok _).1]; exact Nat.le_refl _) hcl ⟨rfl, by rw [hjm, if_pos (by omega)]⟩
    ·
     have hia3 : ¬ i = a.length := by rw [zF] at h58; simp at h58; omega
     obtain ⟨x, hs⟩ : ∃ q, a[i]? = some q := ⟨_, zC (by omega)⟩
     have hgx := zU2 (d := []) hs
     obtain ⟨y, hs2⟩ : ∃ q, b[k]? = some q := ⟨_, zC (by omega)⟩
     have hgy := zU2 (d := []) hs2
     refine dO V V V (zJ V V ((hok _).2.2) ta252 V Vv) <| dO V V V (zY V V Vv) <| dO V V V (zI V zJ0 sz9 (by decide) V V V (zM1 hs2) Vv) ?_
     refine dO V V V (zL V V ta9 V Vv) <| dO V V V (zJ V V ((hok _).2.1) ta252 V Vv) <| dO V V V (zY V V Vv) <| dO V V V (zI V zJ0 sz9 (by decide) V V V (zM1 hs) Vv) ?_
     refine dO V V V (zL V V ta9 V Vv) <| dO V V V (zB3 V V V V Vv) <| dO V V V (zP1 V V V Vv) <| dO V V V (zZ0 V V Vv) <| zQ0 ?_
     refine zM V (fun h53 => ?_) (fun h53 => ?_)
     ·
      have hgt : Op.bytesLess (b.getD k []) (a.getD i []) = true := by rw [hgx, hgy]; simpa using h53
      refine zB ?_
      obtain ⟨y, hs2⟩ : ∃ q, b[k]? = some q := ⟨_, zC (by omega)⟩
      have hgy := zU2 (d := []) hs2
      refine qR V <| qO V <| zJ V V ((hok _).2.2) ta252 V <| qM V V V <| qO V <| zI V zJ0 sz9 (by decide) V V V (zM1 hs2) ?_
      refine qO V <| zL V V ta9 V <| qA V V V <| qN <| qR V <| qM V V V <| qO V <| zH1 V V V (wadd (a := k) (b := 1) V (by omega)) ?_
      refine qA V V V ?_
      have hnx := he
      rw [both_B (by omega) (by omega) (by first | exact .inl hia3 | exact .inr ⟨hlt, hgt⟩ | exact .inl (by omega)), hgy] at hnx
      obtain ⟨hy, hnx⟩ := zQ1 hnx
      replace hy : ((bothX a b).map fun x => [encX x])[j]? = some [encX y] := by rw [zI0, hy]; rfl
      have hjl := (zD.1 hy).1
      refine qN <| zB ?_
      rcases Nat.lt_or_eq_of_le hj with hjm | hjm
      ·
       refine qR V <| qM V V V <| qM V V V <| qO V <| ((hyt j _ hjm hy).at0 V V V).mono ?_
       rintro _ _ ⟨rfl, rfl⟩
       refine qO V <| zF1 V V <| qN <| zK V (V) <| zX ?_
       refine ⟨⟨j + 1, _, _⟩, by dsimp only; omega, ⟨by dsimp only; omega, by dsimp only; omega, by dsimp only; omega, hnx⟩, rfl, (.keep V (.keep V (.keep V (.nil)))), (.eq V (V) (.eq V (V) (.nil)))⟩
      ·
       refine qR V <| qM V V V <| qM V V V <| qO V <| ((hyf j _ hjm hy).at0 V V V).mono ?_
       rintro _ _ ⟨rfl, rfl⟩
       refine qO V <| zF1 V V <| qN <| zU V (V) ?_
       refine zG1 fun hcv hcl => ?_
       refine zH ?_
       exact zV2 (S' := T (j + 1)) (by simp) zF2 (by rw [(hok _).1, (hok _).1]; exact Nat.le_refl _) hcl ⟨rfl, by rw [hjm, if_pos (by omega)]⟩
     ·
      have hgt : Op.bytesLess (b.getD k []) (a.getD i []) = false := by rw [hgx, hgy]; simpa using h53
      refine zB ?_
      obtain ⟨x, hs⟩ : ∃ q, a[i]? = some q := ⟨_, zC (by omega)⟩
      have hgx := zU2 (d := []) hs
      refine qR V <| qO V <| zJ V V ((hok _).2.1) ta252 V <| qM V V V <| qO V <| zI V zJ0 sz9 (by decide) V V V (zM1 hs) ?_
      refine qO V <| zL V V ta9 V <| qA V V V <| qN <| qR V <| qM V V V <| qO V <| zH1 V V V (wadd (a := i) (b := 1) V (by omega)) ?_
      refine qM V V V <| qO V <| zH1 V V V (wadd (a := k) (b := 1) V (by omega)) ?_
      refine qA V V V <| qA V V V ?_
      have hnx := he
      rw [both_C (by omega) (by omega) (by first | exact hlt | (exfalso; omega)) hgt, hgx] at hnx
      obtain ⟨hy, hnx⟩ := zQ1 hnx
      replace hy : ((bothX a b).map fun x => [encX x])[j]? = some [encX x] := by rw [zI0, hy]; rfl
      have hjl := (zD.1 hy).1
      refine qN <| zB ?_
      rcases Nat.lt_or_eq_of_le hj with hjm | hjm
      ·
       refine qR V <| qM V V V <| qM V V V <| qO V <| ((hyt j _ hjm hy).at0 V V V).mono ?_
       rintro _ _ ⟨rfl, rfl⟩
       refine qO V <| zF1 V V <| qN <| zK V (V) <| zX ?_
       refine ⟨⟨j + 1, _, _⟩, by dsimp only; omega, ⟨by dsimp only; omega, by dsimp only; omega, by dsimp only; omega, hnx⟩, rfl, (.keep V (.keep V (.keep V (.nil)))), (.eq V (V) (.eq V (V) (.nil)))⟩
      ·
       refine qR V <| qM V V V <| qM V V V <| qO V <| ((hyf j _ hjm hy).at0 V V V).mono ?_
       rintro _ _ ⟨rfl, rfl⟩
       refine qO V <| zF1 V V <| qN <| zU V (V) ?_
       refine zG1 fun hcv hcl => ?_
       refine zH ?_
       exact zV2 (S' := T (j + 1)) (by simp) zF2 (by rw [(hok _).1, (hok _).1]; exact Nat.le_refl _) hcl ⟨rfl, by rw [hjm, if_pos (by omega)]⟩
 ·
  have hia : ¬ i < a.length := by rw [zF] at h11; simp at h11; omega
  refine qM V V V <| qO V <| zJ V V ((hok _).2.2) ta252 V <| qE V V zJ0 V <| qC V V V V V <| qP V V V V <| qN ?_
  refine zM V (fun h16 => ?_) (fun h16 => ?_)
  ·
   have hkb : k < b.length := by rw [zF] at h16; simpa using h16
   refine zX <| zB0 <| zB <| qR V <| qA V V V <| qN <| zB <| zB0 <| zB ?_
   refine zW0 [] [_] mo (by decide) V V V V ?_
   refine dO V V V (zY V V Vv) <| dO V V V (zJ V V ((hok _).2.2) ta252 V Vv) <| dO V V V (zU1 V zJ0 V Vv) <| dO V V V (zR2 V V V V Vv) <| dO V V V (zY V V Vv) ?_
   refine zR3 (fun h30 => ?_) (fun h30 => ?_)
   ·
    have hk2 : k = b.length := by rw [zF] at h30; simp at h30; omega
    refine dS V V <| dS V V <| dS V V <| dS V V <| dS V V <| dS V V <| dS V V <| dS V V <| dS V V <| dS V V <| dS V V <| dS V V <| dS V V <| dS V V <| dS V V <| dO V V V (zP1 V V V Vv) <| dO V V V (zZ0 V V Vv) <| zQ0 <| zU V (V) <| zB ?_
    obtain ⟨x, hs⟩ : ∃ q, a[i]? = some q := ⟨_, zC (by omega)⟩
    have hgx := zU2 (d := []) hs
    refine qR V <| qO V <| zJ V V ((hok _).2.1) ta252 V <| qM V V V <| qO V <| zI V zJ0 sz9 (by decide) V V V (zM1 hs) ?_
    refine qO V <| zL V V ta9 V <| qA V V V <| qN <| qR V <| qM V V V <| qO V <| zH1 V V V (wadd (a := i) (b := 1) V (by omega)) ?_
    refine qA V V V ?_
    have hnx := he
    rw [both_A (by omega) (by omega) (by first | exact .inl hk2 | exact .inr hlt), hgx] at hnx
    obtain ⟨hy, hnx⟩ := zQ1 hnx
    replace hy : ((bothX a b).map fun x => [encX x])[j]? = some [encX x] := by rw [zI0, hy]; rfl
    have hjl := (zD.1 hy).1
    refine qN <| zB ?_
    rcases Nat.lt_or_eq_of_le hj with hjm | hjm
    ·
     refine qR V <| qM V V V <| qM V V V <| qO V <| ((hyt j _ hjm hy).at0 V V V).mono ?_
     rintro _ _ ⟨rfl, rfl⟩
     refine qO V <| zF1 V V <| qN <| zK V (V) <| zX ?_
     refine ⟨⟨j + 1, _, _⟩, by dsimp only; omega, ⟨by dsimp only; omega, by dsimp only; omega, by dsimp only; omega, hnx⟩, rfl, (.keep V (.keep V (.keep V (.nil)))), (.eq V (V) (.eq V (V) (.nil)))⟩
    ·
     refine qR V <| qM V V V <| qM V V V <| qO V <| ((hyf j _ hjm hy).at0 V V V).mono ?_
     rintro _ _ ⟨rfl, rfl⟩
     refine qO V <| zF1 V V <| qN <| zU V (V) ?_
     refine zG1 fun hcv hcl => ?_
     refine zH ?_
     exact zV2 (S' := T (j + 1)) (by simp) zF2 (by rw [(hok _).1, (hok _).1]; exact Nat.le_refl _) hcl ⟨rfl, by rw [hjm, if_pos (by omega)]⟩
   ·
    have hk2 : ¬ k = b.length := by rw [zF] at h30; simp at h30; omega
    refine dO V V V (zY V V Vv) <| dO V V V (zJ V V ((hok _).2.1) ta252 V Vv) <| dO V V V (zU1 V zJ0 V Vv) <| dO V V V (zR2 V V V V Vv) <| dO V V V (zY V V Vv) ?_
    refine zR3 (fun h35 => ?_) (fun h35 => ?_)
    ·
     have hia2 : i < a.length := by rw [zF] at h35; simpa using h35
     obtain ⟨x, hs⟩ : ∃ q, a[i]? = some q := ⟨_, zC (by omega)⟩
     have hgx := zU2 (d := []) hs
     obtain ⟨y, hs2⟩ : ∃ q, b[k]? = some q := ⟨_, zC (by omega)⟩
     have hgy := zU2 (d := []) hs2
     refine dO V V V (zJ V V ((hok _).2.1) ta252 V Vv) <| dO V V V (zY V V Vv) <| dO V V V (zI V zJ0 sz9 (by decide) V V V (zM1 hs) Vv) ?_
     refine dO V V V (zL V V ta9 V Vv) <| dO V V V (zJ V V ((hok _).2.2) ta252 V Vv) <| dO V V V (zY V V Vv) <| dO V V V (zI V zJ0 sz9 (by decide) V V V (zM1 hs2) Vv) ?_
     refine dO V V V (zL V V ta9 V Vv) <| dO V V V (zB3 V V V V Vv) <| dO V V V (zP1 V V V Vv) <| dO V V V (zP1 V V V Vv) <| dO V V V (zZ0 V V Vv) <| zQ0 ?_
     refine zM V (fun h25 => ?_) (fun h25 => ?_)
     ·
      have hlt : Op.bytesLess (a.getD i []) (b.getD k []) = true := by rw [hgx, hgy]; simpa using h25
      refine zB ?_
      obtain ⟨x, hs⟩ : ∃ q, a[i]? = some q := ⟨_, zC (by omega)⟩
      have hgx := zU2 (d := []) hs
      refine qR V <| qO V <| zJ V V ((hok _).2.1) ta252 V <| qM V V V <| qO V <| zI V zJ0 sz9 (by decide) V V V (zM1 hs) ?_
      refine qO V <| zL V V ta9 V <| qA V V V <| qN <| qR V <| qM V V V <| qO V <| zH1 V V V (wadd (a := i) (b := 1) V (by omega)) ?_
      refine qA V V V ?_
      have hnx := he
      rw [both_A (by omega) (by omega) (by first | exact .inl hk2 | exact .inr hlt), hgx] at hnx
      obtain ⟨hy, hnx⟩ := zQ1 hnx
      replace hy : ((bothX a b).map fun x => [encX x])[j]? = some [encX x] := by rw [zI0, hy]; rfl
      have hjl := (zD.1 hy).1
      refine qN <| zB ?_
      rcases Nat.lt_or_eq_of_le hj with hjm | hjm
      ·
       refine qR V <| qM V V V <| qM V V V <| qO V <| ((hyt j _ hjm hy).at0 V V V).mono ?_
       rintro _ _ ⟨rfl, rfl⟩
       refine qO V <| zF1 V V <| qN <| zK V (V) <| zX ?_
       refine ⟨⟨j + 1, _, _⟩, by dsimp only; omega, ⟨by dsimp only; omega, by dsimp only; omega, by dsimp only; omega, hnx⟩, rfl, (.keep V (.keep V (.keep V (.nil)))), (.eq V (V) (.eq V (V) (.nil)))⟩
      ·
       refine qR V <| qM V V V <| qM V V V <| qO V <| ((hyf j _ hjm hy).at0 V V V).mono ?_
       rintro _ _ ⟨rfl, rfl⟩
       refine qO V <| zF1 V V <| qN <| zU V (V) ?_
       refine zG1 fun hcv hcl => ?_
       refine zH ?_
       exact zV2 (S' := T (j + 1)) (by simp) zF2 (by rw [(hok _).1, (hok _).1]; exact Nat.le_refl _) hcl ⟨rfl, by rw [hjm, if_pos (by omega)]⟩
     ·
      have hlt : Op.bytesLess (a.getD i []) (b.getD k []) = false := by rw [hgx, hgy]; simpa using h25
      refine zB ?_
      refine zW0 [] [_] mo (by decide) V V V V ?_
      refine dO V V V (zY V V Vv) <| dO V V V (zJ V V ((hok _).2.1) ta252 V Vv) <| dO V V V (zU1 V zJ0 V Vv) <| dO V V V (zR2 V V V V Vv) <| dO V V V (zY V V Vv) ?_
      refine zR3 (fun h58 => ?_) (fun h58 => ?_)
      ·
       have hia3 : i = a.length := by rw [zF] at h58; simp at h58; omega
       refine dS V V <| dS V V <| dS V V <| dS V V <| dS V V <| dS V V <| dS V V <| dS V V <| dS V V <| dO V V V (zP1 V V V Vv) <| dO V V V (zZ0 V V Vv) <| zQ0 <| zU V (V) <| zB ?_
       obtain ⟨y, hs2⟩ : ∃ q, b[k]? = some q := ⟨_, zC (by omega)⟩
       have hgy := zU2 (d := []) hs2
       refine qR V <| qO V <| zJ V V ((hok _).2.2) ta252 V <| qM V V V <| qO V <| zI V zJ0 sz9 (by decide) V V V (zM1 hs2) ?_
       refine qO V <| zL V V ta9 V <| qA V V V <| qN <| qR V <| qM V V V <| qO V <| zH1 V V V (wadd (a := k) (b := 1) V (by omega)) ?_
       refine qA V V V ?_
       have hnx := he
       rw [both_B (by omega) (by omega) (by first | exact .inl hia3 | exact .inr ⟨hlt, hgt⟩ | exact .inl (by omega)), hgy] at hnx
       obtain ⟨hy, hnx⟩ := zQ1 hnx
       replace hy : ((bothX a b).map fun x => [encX x])[j]? = some [encX y] := by rw [zI0, hy]; rfl
       have hjl := (zD.1 hy).1
       refine qN <| zB ?_
       rcases Nat.lt_or_eq_of_le hj with hjm | hjm
       ·
        refine qR V <| qM V V V <| qM V V V <| qO V <| ((hyt j _ hjm hy).at0 V V V).mono ?_
        rintro _ _ ⟨rfl, rfl⟩
        refine qO V <| zF1 V V <| qN <| zK V (V) <| zX ?_
        refine ⟨⟨j + 1, _, _⟩, by dsimp only; omega, ⟨by dsimp only; omega, by dsimp only; omega, by dsimp only; omega, hnx⟩, rfl, (.keep V (.keep V (.keep V (.nil)))), (.eq V (V) (.eq V (V) (.nil)))⟩
       ·
        refine qR V <| qM V V V <| qM V V V <| qO V <| ((hyf j _ hjm hy).at0 V V V).mono ?_
        rintro _ _ ⟨rfl, rfl⟩
        refine qO V <| zF1 V V <| qN <| zU V (V) ?_
        refine zG1 fun hcv hcl => ?_
        refine zH ?_
        exact zV2 (S' := T (j + 1)) (by simp) zF2 (by rw [(hok _).1, (hok _).1]; exact Nat.le_refl _) hcl ⟨rfl, by rw [hjm, if_pos (by omega)]⟩
      ·
       have hia3 : ¬ i = a.length := by rw [zF] at h58; simp at h58; omega
       obtain ⟨x, hs⟩ : ∃ q, a[i]? = some q := ⟨_, zC (by omega)⟩
       have hgx := zU2 (d := []) hs
       obtain ⟨y, hs2⟩ : ∃ q, b[k]? = some q := ⟨_, zC (by omega)⟩
       have hgy := zU2 (d := []) hs2
       refine dO V V V (zJ V V ((hok _).2.2) ta252 V Vv) <| dO V V V (zY V V Vv) <| dO V V V (zI V zJ0 sz9 (by decide) V V V (zM1 hs2) Vv) ?_
       refine dO V V V (zL V V ta9 V Vv) <| dO V V V (zJ V V ((hok _).2.1) ta252 V Vv) <| dO V V V (zY V V Vv) <| dO V V V (zI V zJ0 sz9 (by decide) V V V (zM1 hs) Vv) ?_
       refine dO V V V (zL V V ta9 V Vv) <| dO V V V (zB3 V V V V Vv) <| dO V V V (zP1 V V V Vv) <| dO V V V (zZ0 V V Vv) <| zQ0 ?_
       refine zM V (fun h53 => ?_) (fun h53 => ?_)
       ·
        have hgt : Op.bytesLess (b.getD k []) (a.getD i []) = true := by rw [hgx, hgy]; simpa using h53
        refine zB ?_
        obtain ⟨y, hs2⟩ : ∃ q, b[k]? = some q := ⟨_, zC (by omega)⟩
        have hgy := zU2 (d := []) hs2
        refine qR V <| qO V <| zJ V V ((hok _).2.2) ta252 V <| qM V V V <| qO V <| zI V zJ0 sz9 (by decide) V V V (zM1 hs2) ?_
        refine qO V <| zL V V ta9 V <| qA V V V <| qN <| qR V <| qM V V V <| qO V <| zH1 V V V (wadd (a := k) (b := 1) V (by omega)) ?_
        refine qA V V V ?_
        have hnx := he
        rw [both_B (by omega) (by omega) (by first | exact .inl hia3 | exact .inr ⟨hlt, hgt⟩ | exact .inl (by omega)), hgy] at hnx
        obtain ⟨hy, hnx⟩ := zQ1 hnx
        replace hy : ((bothX a b).map fun x => [encX x])[j]? = some [encX y] := by rw [zI0, hy]; rfl
        have hjl := (zD.1 hy).1
        refine qN <| zB ?_
        rcases Nat.lt_or_eq_of_le hj with hjm | hjm
        ·
         refine qR V <| qM V V V <| qM V V V <| qO V <| ((hyt j _ hjm hy).at0 V V V).mono ?_
         rintro _ _ ⟨rfl, rfl⟩
         refine qO V <| zF1 V V <| qN <| zK V (V) <| zX ?_
         refine ⟨⟨j + 1, _, _⟩, by dsimp only; omega, ⟨by dsimp only; omega, by dsimp only; omega, by dsimp only; omega, hnx⟩, rfl, (.keep V (.keep V (.keep V (.nil)))), (.eq V (V) (.eq V (V) (.nil)))⟩
        ·
         refine qR V <| qM V V V <| qM V V V <| qO V <| ((hyf j _ hjm hy).at0 V V V).mono ?_
         rintro _ _ ⟨rfl, rfl⟩
         refine qO V <| zF1 V V <| qN <| zU V (V) ?_
         refine zG1 fun hcv hcl => ?_
         refine zH ?_
         exact zV2 (S' := T (j + 1)) (by simp) zF2 (by rw [(hok _).1, (hok _).1]; exact Nat.le_refl _) hcl ⟨rfl, by rw [hjm, if_pos (by omega)]⟩
       ·
        have hgt : Op.bytesLess (b.getD k []) (a.getD i []) = false := by rw [hgx, hgy]; simpa using h53
        refine zB ?_
        obtain ⟨x, hs⟩ : ∃ q, a[i]? = some q := ⟨_, zC (by omega)⟩
        have hgx := zU2 (d := []) hs
        refine qR V <| qO V <| zJ V V ((hok _).2.1) ta252 V <| qM V V V <| qO V <| zI V zJ0 sz9 (by decide) V V V (zM1 hs) ?_
        refine qO V <| zL V V ta9 V <| qA V V V <| qN <| qR V <| qM V V V <| qO V <| zH1 V V V (wadd (a := i) (b := 1) V (by omega)) ?_
        refine qM V V V <| qO V <| zH1 V V V (wadd (a := k) (b := 1) V (by omega)) ?_
        refine qA V V V <| qA V V V ?_
        have hnx := he
        rw [both_C (by omega) (by omega) (by first | exact hlt | (exfalso; omega)) hgt, hgx] at hnx
        obtain ⟨hy, hnx⟩ := zQ1 hnx
        replace hy : ((bothX a b).map fun x => [encX x])[j]? = some [encX x] := by rw [zI0, hy]; rfl
        have hjl := (zD.1 hy).1
        refine qN <| zB ?_
        rcases Nat.lt_or_eq_of_le hj with hjm | hjm
        ·
         refine qR V <| qM V V V <| qM V V V <| qO V <| ((hyt j _ hjm hy).at0 V V V).mono ?_
         rintro _ _ ⟨rfl, rfl⟩
         refine qO V <| zF1 V V <| qN <| zK V (V) <| zX ?_
         refine ⟨⟨j + 1, _, _⟩, by dsimp only; omega, ⟨by dsimp only; omega, by dsimp only; omega, by dsimp only; omega, hnx⟩, rfl, (.keep V (.keep V (.keep V (.nil)))), (.eq V (V) (.eq V (V) (.nil)))⟩
        ·
         refine qR V <| qM V V V <| qM V V V <| qO V <| ((hyf j _ hjm hy).at0 V V V).mono ?_
         rintro _ _ ⟨rfl, rfl⟩
         refine qO V <| zF1 V V <| qN <| zU V (V) ?_
         refine zG1 fun hcv hcl => ?_
         refine zH ?_
         exact zV2 (S' := T (j + 1)) (by simp) zF2 (by rw [(hok _).1, (hok _).1]; exact Nat.le_refl _) hcl ⟨rfl, by rw [hjm, if_pos (by omega)]⟩
    ·
     have hia2 : ¬ i < a.length := by rw [zF] at h35; simp at h35; omega
     refine dS V V <| dS V V <| dS V V <| dS V V <| dS V V <| dS V V <| dS V V <| dS V V <| dS V V <| dO V V V (zP1 V V V Vv) <| dO V V V (zP1 V V V Vv) <| dO V V V (zZ0 V V Vv) <| zQ0 <| zK V (V) <| zB ?_
     refine zW0 [] [_] mo (by decide) V V V V ?_
     refine dO V V V (zY V V Vv) <| dO V V V (zJ V V ((hok _).2.1) ta252 V Vv) <| dO V V V (zU1 V zJ0 V Vv) <| dO V V V (zR2 V V V V Vv) <| dO V V V (zY V V Vv) ?_
     refine zR3 (fun h58 => ?_) (fun h58 => ?_)
     ·
      have hia3 : i = a.length := by rw [zF] at h58; simp at h58; omega
      refine dS V V <| dS V V <| dS V V <| dS V V <| dS V V <| dS V V <| dS V V <| dS V V <| dS V V <| dO V V V (zP1 V V V Vv) <| dO V V V (zZ0 V V Vv) <| zQ0 <| zU V (V) <| zB ?_
      obtain ⟨y, hs2⟩ : ∃ q, b[k]? = some q := ⟨_, zC (by omega)⟩
      have hgy := zU2 (d := []) hs2
      refine qR V <| qO V <| zJ V V ((hok _).2.2) ta252 V <| qM V V V <| qO V <| zI V zJ0 sz9 (by decide) V V V (zM1 hs2) ?_
      refine qO V <| zL V V ta9 V <| qA V V V <| qN <| qR V <| qM V V V <| qO V <| zH1 V V V (wadd (a := k) (b := 1) V (by omega)) ?_
      refine qA V V V ?_
      have hnx := he
      rw [both_B (by omega) (by omega) (by first | exact .inl hia3 | exact .inr ⟨hlt, hgt⟩ | exact .inl (by omega)), hgy] at hnx
      obtain ⟨hy, hnx⟩ := zQ1 hnx
      replace hy : ((bothX a b).map fun x => [encX x])[j]? = some [encX y] := by rw [zI0, hy]; rfl
      have hjl := (zD.1 hy).1
      refine qN <| zB ?_
      rcases Nat.lt_or_eq_of_le hj with hjm | hjm
      ·
       refine qR V <| qM V V V <| qM V V V <| qO V <| ((hyt j _ hjm hy).at0 V V V).mono ?_
       rintro _ _ ⟨rfl, rfl⟩
       refine qO V <| zF1 V V <| qN <| zK V (V) <| zX ?_
       refine ⟨⟨j + 1, _, _⟩, by dsimp only; omega, ⟨by dsimp only; omega, by dsimp only; omega, by dsimp only; omega, hnx⟩, rfl, (.keep V (.keep V (.keep V (.nil)))), (.eq V (V) (.eq V (V) (.nil)))⟩
      ·
       refine qR V <| qM V V V <| qM V V V <| qO V <| ((hyf j _ hjm hy).at0 V V V).mono ?_
       rintro _ _ ⟨rfl, rfl⟩
       refine qO V <| zF1 V V <| qN <| zU V (V) ?_
       refine zG1 fun hcv hcl => ?_
       refine zH ?_
       exact zV2 (S' := T (j + 1)) (by simp) zF2 (by rw [(hok _).1, (hok _).1]; exact Nat.le_refl _) hcl ⟨rfl, by rw [hjm, if_pos (by omega)]⟩
     ·
      have hia3 : ¬ i = a.length := by rw [zF] at h58; simp at h58; omega
      obtain ⟨x, hs⟩ : ∃ q, a[i]? = some q := ⟨_, zC (by omega)⟩
      have hgx := zU2 (d := []) hs
      obtain ⟨y, hs2⟩ : ∃ q, b[k]? = some q := ⟨_, zC (by omega)⟩
      have hgy := zU2 (d := []) hs2
      refine dO V V V (zJ V V ((hok _).2.2) ta252 V Vv) <| dO V V V (zY V V Vv) <| dO V V V (zI V zJ0 sz9 (by decide) V V V (zM1 hs2) Vv) ?_
      refine dO V V V (zL V V ta9 V Vv) <| dO V V V (zJ V V ((hok _).2.1) ta252 V Vv) <| dO V V V (zY V V Vv) <| dO V V V (zI V zJ0 sz9 (by decide) V V V (zM1 hs) Vv) ?_
      refine dO V V V (zL V V ta9 V Vv) <| dO V V V (zB3 V V V V Vv) <| dO V V V (zP1 V V V Vv) <| dO V V V (zZ0 V V Vv) <| zQ0 ?_
      refine zM V (fun h53 => ?_) (fun h53 => ?_)
      ·
       have hgt : Op.bytesLess (b.getD k []) (a.getD i []) = true := by rw [hgx, hgy]; simpa using h53
       refine zB ?_
       obtain ⟨y, hs2⟩ : ∃ q, b[k]? = some q := ⟨_, zC (by omega)⟩
       have hgy := zU2 (d := []) hs2
       refine qR V <| qO V <| zJ V V ((hok _).2.2) ta252 V <| qM V V V <| qO V <| zI V zJ0 sz9 (by decide) V V V (zM1 hs2) ?_
       refine qO V <| zL V V ta9 V <| qA V V V <| qN <| qR V <| qM V V V <| qO V <| zH1 V V V (wadd (a := k) (b := 1) V (by omega)) ?_
       refine qA V V V ?_
       have hnx := he
       rw [both_B (by omega) (by omega) (by first | exact .inl hia3 | exact .inr ⟨hlt, hgt⟩ | exact .inl (by omega)), hgy] at hnx
       obtain ⟨hy, hnx⟩ := zQ1 hnx
       replace hy : ((bothX a b).map fun x => [encX x])[j]? = some [encX y] := by rw [zI0, hy]; rfl
       have hjl := (zD.1 hy).1
       refine qN <| zB ?_
       rcases Nat.lt_or_eq_of_le hj with hjm | hjm
       ·
        refine qR V <| qM V V V <| qM V V V <| qO V <| ((hyt j _ hjm hy).at0 V V V).mono ?_
        rintro _ _ ⟨rfl, rfl⟩
        refine qO V <| zF1 V V <| qN <| zK V (V) <| zX ?_
        refine ⟨⟨j + 1, _, _⟩, by dsimp only; omega, ⟨by dsimp only; omega, by dsimp only; omega, by dsimp only; omega, hnx⟩, rfl, (.keep V (.keep V (.keep V (.nil)))), (.eq V (V) (.eq V (V) (.nil)))⟩
       ·
        refine qR V <| qM V V V <| qM V V V <| qO V <| ((hyf j _ hjm hy).at0 V V V).mono ?_
        rintro _ _ ⟨rfl, rfl⟩
        refine qO V <| zF1 V V <| qN <| zU V (V) ?_
        refine zG1 fun hcv hcl => ?_
        refine zH ?_
        exact zV2 (S' := T (j + 1)) (by simp) zF2 (by rw [(hok _).1, (hok _).1]; exact Nat.le_refl _) hcl ⟨rfl, by rw [hjm, if_pos (by omega)]⟩
      ·
       have hgt : Op.bytesLess (b.getD k []) (a.getD i []) = false := by rw [hgx, hgy]; simpa using h53
       refine zB ?_
       obtain ⟨x, hs⟩ : ∃ q, a[i]? = some q := ⟨_, zC (by omega)⟩
       have hgx := zU2 (d := []) hs
       refine qR V <| qO V <| zJ V V ((hok _).2.1) ta252 V <| qM V V V <| qO V <| zI V zJ0 sz9 (by decide) V V V (zM1 hs) ?_
       refine qO V <| zL V V ta9 V <| qA V V V <| qN <| qR V <| qM V V V <| qO V <| zH1 V V V (wadd (a := i) (b := 1) V (by omega)) ?_
       refine qM V V V <| qO V <| zH1 V V V (wadd (a := k) (b := 1) V (by omega)) ?_
       refine qA V V V <| qA V V V ?_
       have hnx := he
       rw [both_C (by omega) (by omega) (by first | exact hlt | (exfalso; omega)) hgt, hgx] at hnx
       obtain ⟨hy, hnx⟩ := zQ1 hnx
       replace hy : ((bothX a b).map fun x => [encX x])[j]? = some [encX x] := by rw [zI0, hy]; rfl
       have hjl := (zD.1 hy).1
       refine qN <| zB ?_
       rcases Nat.lt_or_eq_of_le hj with hjm | hjm
       ·
        refine qR V <| qM V V V <| qM V V V <| qO V <| ((hyt j _ hjm hy).at0 V V V).mono ?_
        rintro _ _ ⟨rfl, rfl⟩
        refine qO V <| zF1 V V <| qN <| zK V (V) <| zX ?_
        refine ⟨⟨j + 1, _, _⟩, by dsimp only; omega, ⟨by dsimp only; omega, by dsimp only; omega, by dsimp only; omega, hnx⟩, rfl, (.keep V (.keep V (.keep V (.nil)))), (.eq V (V) (.eq V (V) (.nil)))⟩
       ·
        refine qR V <| qM V V V <| qM V V V <| qO V <| ((hyf j _ hjm hy).at0 V V V).mono ?_
        rintro _ _ ⟨rfl, rfl⟩
        refine qO V <| zF1 V V <| qN <| zU V (V) ?_
        refine zG1 fun hcv hcl => ?_
        refine zH ?_
        exact zV2 (S' := T (j + 1)) (by simp) zF2 (by rw [(hok _).1, (hok _).1]; exact Nat.le_refl _) hcl ⟨rfl, by rw [hjm, if_pos (by omega)]⟩
  ·
   have hkb : ¬ k < b.length := by rw [zF] at h16; simp at h16; omega
   rw [show i = a.length by omega, show k = b.length by omega, List.drop_length, List.drop_length, both_end] at he
   have hdl := drop_nil_len he
   have hjm : j = m := by omega
   refine zG1 fun hcv hcl => ?_
   refine zV1 ?_
   exact zV2 (S' := T j) (by simp) zF2 (by rw [(hok _).1, (hok _).1]; exact Nat.le_refl _) hcl ⟨rfl, by rw [hjm, if_neg (by omega)]⟩
theorem with_spec (a b : List Bs) (S : MS) : MCalls Tryz.prog 265 [.lst none 1 (a.map encX), .lst none 1 (b.map encX)] S fun v σ' => v = .fn (.func 295) [] [.ref S.length 0, .ref (S.length + 1) 0] ∧ σ' = S ++ [.cells [.lst none 1 (a.map encX)], .cells [.lst none 1 (b.map encX)]] := by
 refine zR Tryz.func265 V Tryz.ntmps265 (zA V) ?_
 refine zB <| qR V <| qB V V V V V <| qB V V V V V <| qA V V V <| qN <| zB <| qR V <| qO V <| zI2 V V V <| qA V V V <| qN ?_
 refine zG1 fun hcv hcl => ?_
 refine zH ?_
 exact ret_tmpT (.inr V) Tryz.results265 V (.refl _) (hcv 4 _ rfl) (by simp) hcl Vv
theorem bothL_cl {t d ty n : Nat} {xs a b : List Bs} {o : MObj} (ht : t < d) (ho : o ∈ [MObj.cells [.lst (some t) 1 (xs.map encX)], .cells [.lst none 1 (a.map encX)], .cells [.lst none 1 (b.map encX)], .row ty 1 n]) : o.cl d := by
 simp only [List.mem_cons, List.not_mem_nil, or_false] at ho
 rcases ho with rfl | rfl | rfl | rfl
 ·intro x hx
  simp at hx
  subst hx
  exact cl_lstT ht (cl_encX _) encX_one
 ·intro x hx
  simp at hx
  subst hx
  exact zL5 _ _
 ·intro x hx
  simp at hx
  subst hx
  exact zL5 _ _
 ·exact trivial
theorem get_b1 {A R : MS} {o a b c a' : MObj} : ((A ++ [o, a, b, c]) ++ R)[(A ++ [a']).length]? = some a := by rw [zE, zO, getElem?_own]; rfl
theorem get_b2 {A R : MS} {o a b c a' : MObj} : ((A ++ [o, a, b, c]) ++ R)[(A ++ [a']).length + 1]? = some b := by rw [zE, zO, Nat.add_assoc, getElem?_own]; rfl
theorem rowsBoth_spec (a b : List Bs) (hab : a.length + b.length ≤ 1000000) (S : MS) : MCalls Tryz.prog 228 [.lst none 1 (a.map encX), .lst none 1 (b.map encX)] S fun v σ' => v = .lst none 1 ((bothX a b).map encX) ∧ σ' = S := by
 refine zR Tryz.func228 V Tryz.ntmps228 (zA V) ?_
 refine zB <| qR V <| qA V V V <| qN <| zB <| qR V <| qO V <| zM0 V zm23 V V <| qN <| zB <| zB <| qR V <| qM V V V <| qM V V V ?_
 refine qX V V V V co265 (with_spec a b _) ?_
 rw [zO S]
 refine qN <| zB0 <| mwp_cellrow 0 9 1 V (Nat.le_refl _) V V ?_
 refine mwp_rangeB (ok := fun σ => σ.length = S.length + 5 ∧ σ[(S ++ [MObj.cells [.lst0]]).length]? = some (.cells [.lst none 1 (a.map encX)]) ∧ σ[(S ++ [MObj.cells [.lst0]]).length + 1]? = some (.cells [.lst none 1 (b.map encX)])) (ys := (bothX a b).map fun x => [encX x]) .ret (.inl V) (fun j => true) (fun j => ([.cells [.lst (some (S.length + 3)) 1 (((bothX a b).take j).map encX)], .cells [.lst none 1 (a.map encX)], .cells [.lst none 1 (b.map encX)], .row 9 1 ((bothX a b).take j).length] : MS)) (fun j => ([.cells [.lst (some (S.length + 3)) 1 (((bothX a b).take j).map encX)], .cells [.lst none 1 (a.map encX)], .cells [.lst none 1 (b.map encX)], .row 9 1 ((bothX a b).take j).length] : MS)) (fun j => V) (fun j => V) V (fun j o ho n hn => bothL_cl (by simp at hn; omega) ho) (fun j o ho n hn => bothL_cl (by simp at hn; omega) ho) V co295 V (by simp) ((with_iter a b hab _ _ _).weak fun σ h => h.1) (fun j => ⟨by simp only [zE, zF0, List.length_nil], get_b1, get_b2⟩) (fun j s q => ⟨by simp only [zE, zF0, List.length_nil], get_b1, get_b2⟩) V (fun y hy => by obtain ⟨i, _, rfl⟩ := List.mem_map.1 hy; rfl) ?_ ?_ ?_
 ·
  intro j y hy hbef L'
  rw [zI0] at hy
  obtain ⟨x, hp, rfl⟩ := Option.map_eq_some_iff.1 hy
  have hjl := (zD.1 hp).1
  have hbl := both_len a b
  have htl : ((bothX a b).take j).length ≤ 1000000 := by rw [List.length_take]; omega
  refine qR V <| qA V V V <| qN ?_
  refine ⟨rfl, [], by rw [List.append_nil], ?_⟩
  rw [List.append_nil]
  refine zB0 <| qR V <| qO V <| zN4 V V V ta23 V <| qM V V V <| qO V <| zL1 V zE0 el9 V V (by decide) (by decide) V V ?_
  refine qO V <| op_append_mid V zE0 el9 V V V (by simp) (by simp only [zF, zF0, List.length_nil]; omega) (by simp only [zF, zF0, List.length_nil]; omega) V ?_
  refine qO V <| zB4 V V V V sz23 V V (zA V) V <| qN ?_
  exact .inl ⟨rfl, rfl, [], by rw [List.append_nil, List.take_add_one, hp, Option.toList_some, List.map_append, len_snoc]; rfl⟩
 ·
  intro _
  rw [zO S]
  rw [zF]
  refine zB <| qR V <| qL V V V V ta23 V <| qA V V V <| qN <| zH ?_
  exact zT (.inr V) Tryz.results228 V (Sub.trans (.view _ _ _) (.of_eq (by rw [List.take_length]))) (zL5 _ _) Vv
 ·
  intro j y hy hp
  cases hp
end Go.Proofs.YtciimaabeabkdaaGreatDoor
