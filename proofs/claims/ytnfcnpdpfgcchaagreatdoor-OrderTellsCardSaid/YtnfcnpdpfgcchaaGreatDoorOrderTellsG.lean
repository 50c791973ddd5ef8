/-
  Texts on which the proof of OrderTells leans: part 7.
-/
import Derived.Test.YtnfcnpdpfgcchaaGreatDoorOrderTellsF
import Derived.Stop.Asserts
import Derived.Deep.Slices
import Derived.ChangeSame
import Derived.ProofKit
import Derived.OpenShut
import Derived.ChangeOld
import Derived.SizedLaws
import Derived.Carry
import Derived.Laws.Tables
set_option linter.unusedVariables false
set_option linter.unusedSimpArgs false
set_option maxRecDepth 20000
set_option maxHeartbeats 8000000
namespace Go.Proofs.YtnfcnpdpfgcchaaGreatDoor
open Go Go.MV
theorem _root_.zG4 : type_of% @Tryz.results59 := @Tryz.results59
theorem rLater_spec (a b : Val) (S : MS) : MCalls Tryz.prog 59 [encV a, encV b] S fun v σ' => v = encV (laterF a b) ∧ σ' = S := by
 obtain ⟨n1, m1, s1, c1, w1⟩ := a
 obtain ⟨n2, m2, s2, c2, w2⟩ := b
 refine zU Tryz.func59 rfl Tryz.ntmps59 (zA rfl) ?_
 refine zB <| qR rfl <| qB rfl rfl rfl rfl rfl <| qB rfl rfl rfl rfl rfl <| qO rfl <| zN0 rfl zm30 rfl rfl <| qN <| zB <| zB0 <| zB ?_
 rcases s1 with _ | ⟨x, s1⟩
 rotate_left
 rcases s2 with _ | ⟨y, s2⟩
 rotate_left 2
 ·
  refine qR rfl <| qF rfl rfl rfl zR1 <| qL rfl rfl rfl rfl ta26 rfl <| qE rfl rfl zX rfl <| qC rfl rfl rfl rfl (eqlI rfl) <| qA rfl rfl rfl <| qN <| zW rfl (rfl) <| zB <| qR rfl <| qL rfl rfl rfl rfl ta30 rfl <| qO rfl <| zH0 rfl rfl rfl rfl sz30 rfl rfl (zA rfl) rfl <| qN <| zK ?_
  exact zI2 (y := encV (.mk n2 m2 s2 c2 w2)) (.inr rfl) zG4 rfl rfl ta30 rfl (.refl _) (zJ1 _ _) ⟨congrArg encV (if_pos (.inl rfl)).symm, rfl⟩
 ·
  refine qR rfl <| qF rfl rfl rfl zR1 <| qL rfl rfl rfl rfl ta26 rfl <| qE rfl rfl zX rfl <| qC rfl rfl rfl rfl (zU5) <| qA rfl rfl rfl <| qN <| zL rfl (rfl) <| zB <| qR rfl <| qF rfl rfl rfl zR1 <| qL rfl rfl rfl rfl ta26 rfl <| qE rfl rfl zX rfl <| qC rfl rfl rfl rfl (eqlI rfl) <| qA rfl rfl rfl <| qN <| zW rfl (rfl) <| zB <| qR rfl <| qL rfl rfl rfl rfl ta30 rfl ?_
  refine qO rfl <| zH0 rfl rfl rfl rfl sz30 rfl rfl (zA rfl) rfl <| qN <| zK ?_
  exact zI2 (y := encV (.mk n1 m1 (x :: s1) c1 w1)) (.inr rfl) zG4 rfl rfl ta30 rfl (.refl _) (zJ1 _ _) ⟨congrArg encV (if_neg (by simp [Val.sv])).symm, rfl⟩
 ·
  refine qR rfl <| qF rfl rfl rfl zR1 <| qL rfl rfl rfl rfl ta26 rfl <| qE rfl rfl zX rfl <| qC rfl rfl rfl rfl (zU5) <| qA rfl rfl rfl <| qN <| zL rfl (rfl) <| zB <| qR rfl <| qF rfl rfl rfl zR1 <| qL rfl rfl rfl rfl ta26 rfl <| qE rfl rfl zX rfl <| qC rfl rfl rfl rfl (zU5) <| qA rfl rfl rfl <| qN <| zL rfl (rfl) <| zB <| qR rfl <| qF rfl rfl rfl zB3 ?_
  refine qL rfl rfl rfl rfl ta25 rfl <| qF rfl rfl rfl zB3 <| qL rfl rfl rfl rfl ta25 rfl <| qC rfl rfl rfl rfl rfl <| qA rfl rfl rfl <| qN ?_
  refine zJ rfl (fun h17 => ?_) (fun h17 => ?_)
  ·
   have q17 : n1 ≠ n2 := by simpa using h17
   refine zB <| zB <| qR rfl <| qF rfl rfl rfl zB3 <| qL rfl rfl rfl rfl ta25 rfl <| qF rfl rfl rfl zB3 <| qL rfl rfl rfl rfl ta25 rfl <| qC rfl rfl rfl rfl rfl <| qN ?_
   refine zJ rfl (fun h27 => ?_) (fun h27 => ?_)
   ·
    have q27 := zD3 h27
    refine zB <| qR rfl <| qL rfl rfl rfl rfl ta30 rfl <| qO rfl <| zH0 rfl rfl rfl rfl sz30 rfl rfl (zA rfl) rfl <| qN <| zK ?_
    exact zI2 (y := encV (.mk n1 m1 (x :: s1) c1 w1)) (.inr rfl) zG4 rfl rfl ta30 rfl (.refl _) (zJ1 _ _) ⟨congrArg encV (zC4 _ _ _ _ _ _ (by unfold LT3; rintro (h | ⟨_, h | ⟨_, _⟩⟩) <;> omega)).symm, rfl⟩
   ·
    have q27 := zW2 h27
    refine zA0 <| zB <| qR rfl <| qL rfl rfl rfl rfl ta30 rfl <| qO rfl <| zH0 rfl rfl rfl rfl sz30 rfl rfl (zA rfl) rfl <| qN <| zK ?_
    exact zI2 (y := encV (.mk n2 m2 (y :: s2) c2 w2)) (.inr rfl) zG4 rfl rfl ta30 rfl (.refl _) (zJ1 _ _) ⟨congrArg encV (zB4 _ _ _ _ _ _ (by unfold LT3; first | (left; omega) | (right; exact ⟨by omega, .inl (by omega)⟩))).symm, rfl⟩
  ·
   have q17 : n1 = n2 := by simpa using h17
   refine zB <| qR rfl <| qF rfl rfl rfl zQ4 <| qL rfl rfl rfl rfl ta25 rfl <| qF rfl rfl rfl zQ4 <| qL rfl rfl rfl rfl ta25 rfl <| qC rfl rfl rfl rfl rfl <| qA rfl rfl rfl <| qN ?_
   refine zJ rfl (fun h30 => ?_) (fun h30 => ?_)
   ·
    have q30 : m1 ≠ m2 := by simpa using h30
    refine zB <| zB <| qR rfl <| qF rfl rfl rfl zQ4 <| qL rfl rfl rfl rfl ta25 rfl <| qF rfl rfl rfl zQ4 <| qL rfl rfl rfl rfl ta25 rfl <| qC rfl rfl rfl rfl rfl <| qN ?_
    refine zJ rfl (fun h40 => ?_) (fun h40 => ?_)
    ·
     have q40 := zD3 h40
     refine zB <| qR rfl <| qL rfl rfl rfl rfl ta30 rfl <| qO rfl <| zH0 rfl rfl rfl rfl sz30 rfl rfl (zA rfl) rfl <| qN <| zK ?_
     exact zI2 (y := encV (.mk n1 m1 (x :: s1) c1 w1)) (.inr rfl) zG4 rfl rfl ta30 rfl (.refl _) (zJ1 _ _) ⟨congrArg encV (zC4 _ _ _ _ _ _ (by unfold LT3; rintro (h | ⟨_, h | ⟨_, _⟩⟩) <;> omega)).symm, rfl⟩
    ·
     have q40 := zW2 h40
     refine zA0 <| zB <| qR rfl <| qL rfl rfl rfl rfl ta30 rfl <| qO rfl <| zH0 rfl rfl rfl rfl sz30 rfl rfl (zA rfl) rfl <| qN <| zK ?_
     exact zI2 (y := encV (.mk n2 m2 (y :: s2) c2 w2)) (.inr rfl) zG4 rfl rfl ta30 rfl (.refl _) (zJ1 _ _) ⟨congrArg encV (zB4 _ _ _ _ _ _ (by unfold LT3; first | (left; omega) | (right; exact ⟨by omega, .inl (by omega)⟩))).symm, rfl⟩
   ·
    have q30 : m1 = m2 := by simpa using h30
    refine zB ?_
    refine zU0 [] [_] mo (by decide) rfl rfl rfl rfl ?_
    refine dO rfl rfl rfl (zE rfl rfl zR1 ⟨rfl, rfl⟩) <| dO rfl rfl rfl (zD0 rfl rfl rfl ta26 rfl ⟨rfl, rfl⟩) <| dO rfl rfl rfl (zG rfl zX sz9 (by decide) rfl rfl rfl (show _ = some (encX x) from rfl) ⟨rfl, rfl⟩) ?_
    refine dO rfl rfl rfl (zH rfl rfl ta9 rfl ⟨rfl, rfl⟩) <| dO rfl rfl rfl (zE rfl rfl zR1 ⟨rfl, rfl⟩) <| dO rfl rfl rfl (zD0 rfl rfl rfl ta26 rfl ⟨rfl, rfl⟩) <| dO rfl rfl rfl (zG rfl zX sz9 (by decide) rfl rfl rfl (show _ = some (encX y) from rfl) ⟨rfl, rfl⟩) ?_
    refine dO rfl rfl rfl (zH rfl rfl ta9 rfl ⟨rfl, rfl⟩) <| dO rfl rfl rfl (zG3 rfl rfl rfl rfl ⟨rfl, rfl⟩) <| dO rfl rfl rfl (zB1 rfl rfl ⟨rfl, rfl⟩) <| zL0 ?_
    refine zJ rfl (fun h43 => ?_) (fun h43 => ?_)
    ·
     have q52 : ¬ ltB x y := fun h => by rw [show Op.bytesLess x y = true from h] at h43; cases h43
     refine zB <| qR rfl <| qL rfl rfl rfl rfl ta30 rfl <| qO rfl <| zH0 rfl rfl rfl rfl sz30 rfl rfl (zA rfl) rfl <| qN <| zK ?_
     exact zI2 (y := encV (.mk n1 m1 (x :: s1) c1 w1)) (.inr rfl) zG4 rfl rfl ta30 rfl (.refl _) (zJ1 _ _) ⟨congrArg encV (zC4 _ _ _ _ _ _ (by unfold LT3; rintro (h | ⟨_, h | ⟨_, h⟩⟩) <;> first | omega | exact q52 h)).symm, rfl⟩
    ·
     have q52 : ltB x y := by simpa [ltB] using h43
     refine zA0 <| zB <| qR rfl <| qL rfl rfl rfl rfl ta30 rfl <| qO rfl <| zH0 rfl rfl rfl rfl sz30 rfl rfl (zA rfl) rfl <| qN <| zK ?_
     exact zI2 (y := encV (.mk n2 m2 (y :: s2) c2 w2)) (.inr rfl) zG4 rfl rfl ta30 rfl (.refl _) (zJ1 _ _) ⟨congrArg encV (zB4 _ _ _ _ _ _ (by unfold LT3; first | (left; omega) | (right; refine ⟨by omega, ?_⟩; first | (left; omega) | (right; exact ⟨by omega, q52⟩)))).symm, rfl⟩
theorem _root_.zN3 : type_of% @Tryz.ntmps32 := @Tryz.ntmps32
theorem _root_.zT2 : type_of% @Tryz.results32 := @Tryz.results32
theorem rj1 (n m : Int) (ins : List Sch) (S : MS) : MCalls Tryz.prog 32 [encS (.mk 1 ins), encV (.mk n 0 [] [] []), encV (.mk m 0 [] [] [])] S fun v σ' => v = .tup [encV (.mk (max n m) 0 [] [] []), .bool true] ∧ σ' = S := by
 refine zU zP3 rfl zN3 (zA rfl) ?_
 refine zB <| qR rfl <| qB rfl rfl rfl rfl rfl <| qB rfl rfl rfl rfl rfl <| qB rfl rfl rfl rfl rfl <| qO rfl <| zN0 rfl zm30 rfl rfl <| qA rfl rfl rfl <| qN <| zB <| zB <| qR rfl <| qF rfl rfl rfl zG2 <| qL rfl rfl rfl rfl ta3 rfl <| qN <| zB0 <| zB <| zB <| qR rfl <| qC rfl rfl rfl rfl ((show _ = some true from rfl)) <| qA rfl rfl rfl <| qN ?_
 refine zW rfl (rfl) <| zA0 <| zW rfl (rfl) <| zB <| qR rfl <| qF rfl rfl rfl zB3 <| qL rfl rfl rfl rfl ta25 rfl <| qF rfl rfl rfl zB3 <| qL rfl rfl rfl rfl ta25 rfl <| qO rfl <| op_max2 rfl rfl rfl <| qO rfl <| zV2 (y := encV (.mk (max n m) 0 [] [] [])) (zW1 rfl zS0 zm30 (.cons zB3 sz25 rfl rfl (zA rfl) .nil) (by kernel_rfl) ⟨rfl, rfl⟩) (.agg (.cons (.of_eq (congrArg (MV.int _) (by rw [Int.max_def]; split <;> split <;> omega))) (.cons (.refl _) (.cons (.nil 1) (.cons (.nil 1) (.cons (.nil 5) .nil)))))) ?_
 refine qO rfl <| zH0 rfl rfl rfl rfl sz30 rfl rfl (zA rfl) rfl <| qA rfl rfl rfl <| qN <| zK ?_
 exact zZ0 (.inr rfl) zT2 rfl rfl ta30 rfl (.refl _) (zJ1 _ (.mk (max n m) 0 [] [] [])) rfl (.refl _) (.bool _) ⟨rfl, rfl⟩
theorem rj2 (n m : Int) (ins : List Sch) (S : MS) : MCalls Tryz.prog 32 [encS (.mk 2 ins), encV (.mk n 0 [] [] []), encV (.mk m 0 [] [] [])] S fun v σ' => v = .tup [encV (.mk (max n m) 0 [] [] []), .bool true] ∧ σ' = S := by
 refine zU zP3 rfl zN3 (zA rfl) ?_
 refine zB <| qR rfl <| qB rfl rfl rfl rfl rfl <| qB rfl rfl rfl rfl rfl <| qB rfl rfl rfl rfl rfl <| qO rfl <| zN0 rfl zm30 rfl rfl <| qA rfl rfl rfl <| qN <| zB <| zB <| qR rfl <| qF rfl rfl rfl zG2 <| qL rfl rfl rfl rfl ta3 rfl <| qN <| zB0 <| zB <| zB <| qR rfl <| qC rfl rfl rfl rfl ((show _ = some false from rfl)) <| qA rfl rfl rfl <| qN ?_
 refine zL rfl (rfl) <| qR rfl <| qC rfl rfl rfl rfl ((show _ = some true from rfl)) <| qA rfl rfl rfl <| qN <| zW rfl (rfl) <| zB <| qR rfl <| qF rfl rfl rfl zB3 <| qL rfl rfl rfl rfl ta25 rfl <| qF rfl rfl rfl zB3 <| qL rfl rfl rfl rfl ta25 rfl <| qO rfl <| op_max2 rfl rfl rfl <| qO rfl <| zV2 (y := encV (.mk (max n m) 0 [] [] [])) (zW1 rfl zS0 zm30 (.cons zB3 sz25 rfl rfl (zA rfl) .nil) (by kernel_rfl) ⟨rfl, rfl⟩) (.agg (.cons (.of_eq (congrArg (MV.int _) (by rw [Int.max_def]; split <;> split <;> omega))) (.cons (.refl _) (.cons (.nil 1) (.cons (.nil 1) (.cons (.nil 5) .nil)))))) ?_
 refine qO rfl <| zH0 rfl rfl rfl rfl sz30 rfl rfl (zA rfl) rfl <| qA rfl rfl rfl <| qN <| zK ?_
 exact zZ0 (.inr rfl) zT2 rfl rfl ta30 rfl (.refl _) (zJ1 _ (.mk (max n m) 0 [] [] [])) rfl (.refl _) (.bool _) ⟨rfl, rfl⟩
theorem rj3 (s1 s2 : List Bs) (u1 : Up s1) (u2 : Up s2) (hl : s1.length + s2.length ≤ 1000) (ins : List Sch) (S : MS) : MCalls Tryz.prog 32 [encS (.mk 3 ins), encV (.mk 0 0 s1 [] []), encV (.mk 0 0 s2 [] [])] S fun v σ' => v = .tup [encV (.mk 0 0 (bothX s1 s2) [] []), .bool (decide ((bothX s1 s2).length ≤ 40))] ∧ σ' = S := by
 refine zU zP3 rfl zN3 (zA rfl) ?_
 refine zB <| qR rfl <| qB rfl rfl rfl rfl rfl <| qB rfl rfl rfl rfl rfl <| qB rfl rfl rfl rfl rfl <| qO rfl <| zN0 rfl zm30 rfl rfl <| qA rfl rfl rfl <| qN <| zB <| zB <| qR rfl <| qF rfl rfl rfl zG2 <| qL rfl rfl rfl rfl ta3 rfl <| qN <| zB0 <| zB <| zB <| qR rfl <| qC rfl rfl rfl rfl ((show _ = some false from rfl)) <| qA rfl rfl rfl <| qN ?_
 refine zL rfl (rfl) <| qR rfl <| qC rfl rfl rfl rfl ((show _ = some false from rfl)) <| qA rfl rfl rfl <| qN <| zL rfl (rfl) <| zB <| qR rfl <| qC rfl rfl rfl rfl ((show _ = some true from rfl)) <| qA rfl rfl rfl <| qN <| zW rfl (rfl) <| zB <| qR rfl <| qF rfl rfl rfl zR1 <| qL rfl rfl rfl rfl ta26 rfl <| qF rfl rfl rfl zR1 <| qL rfl rfl rfl rfl ta26 rfl ?_
 refine qX rfl rfl rfl rfl co57 (rBothT_spec s1 s2 u1 u2 (by omega) _) ?_
 refine qA rfl rfl rfl <| qN <| zB <| qR rfl <| qM rfl rfl rfl <| qO rfl <| zV2 (y := encV (.mk 0 0 (bothX s1 s2) [] [])) (zW1 rfl zS0 zm30 (.cons zR1 sz26 rfl rfl (zA rfl) .nil) (by kernel_rfl) ⟨rfl, rfl⟩) (.agg (.cons (.refl _) (.cons (.refl _) (.cons (.refl _) (.cons (.nil 1) (.cons (.nil 5) .nil)))))) ?_
 refine qM rfl rfl rfl <| qE rfl rfl zX rfl <| qC rfl rfl rfl rfl ((show _ = some (decide ((bothX s1 s2).length ≤ 40)) from by simp [intCmp]; omega)) ?_
 refine qO rfl <| zH0 rfl rfl rfl rfl sz30 rfl rfl (zA rfl) rfl <| qA rfl rfl rfl <| qN <| zK ?_
 exact zZ0 (.inr rfl) zT2 rfl rfl ta30 rfl (.refl _) (zJ1 _ (.mk 0 0 (bothX s1 s2) [] [])) rfl (.refl _) (.bool _) ⟨rfl, rfl⟩
theorem rj4 (ins : List Sch) (n1 m1 : Int) (s1 : List Bs) (c1 : List (List Tk)) (w1 : List Val) (n2 m2 : Int) (s2 : List Bs) (c2 : List (List Tk)) (w2 : List Val) (n3 m3 : Int) (s3 : List Bs) (c3 : List (List Tk)) (w3 : List Val) (o : Bool) (hj : ∀ S : MS, MCalls Tryz.prog 58 [encS (.mk 4 ins), encV (.mk n1 m1 s1 c1 w1), encV (.mk n2 m2 s2 c2 w2)] S fun v σ' => v = .tup [encV (.mk n3 m3 s3 c3 w3), .bool o] ∧ σ' = S) (S : MS) : MCalls Tryz.prog 32 [encS (.mk 4 ins), encV (.mk n1 m1 s1 c1 w1), encV (.mk n2 m2 s2 c2 w2)] S fun v σ' => v = .tup [encV (.mk n3 m3 s3 c3 w3), .bool o] ∧ σ' = S := by
 refine zU zP3 rfl zN3 (zA rfl) ?_
 refine zB <| qR rfl <| qB rfl rfl rfl rfl rfl <| qB rfl rfl rfl rfl rfl <| qB rfl rfl rfl rfl rfl <| qO rfl <| zN0 rfl zm30 rfl rfl <| qA rfl rfl rfl <| qN <| zB <| zB <| qR rfl <| qF rfl rfl rfl zG2 <| qL rfl rfl rfl rfl ta3 rfl <| qN <| zB0 <| zB <| zB <| qR rfl <| qC rfl rfl rfl rfl ((show _ = some false from rfl)) <| qA rfl rfl rfl <| qN ?_
 refine zL rfl (rfl) <| qR rfl <| qC rfl rfl rfl rfl ((show _ = some false from rfl)) <| qA rfl rfl rfl <| qN <| zL rfl (rfl) <| zB <| qR rfl <| qC rfl rfl rfl rfl ((show _ = some false from rfl)) <| qA rfl rfl rfl <| qN <| zL rfl (rfl) <| zB <| qR rfl <| qC rfl rfl rfl rfl ((show _ = some true from rfl)) <| qA rfl rfl rfl <| qN <| zW rfl (rfl) <| zB <| qR rfl <| qL rfl rfl rfl rfl ta24 rfl <| qL rfl rfl rfl rfl ta30 rfl ?_
 refine qL rfl rfl rfl rfl ta30 rfl ?_
 refine qX rfl rfl rfl rfl co58 (hj _) ?_
 refine qO rfl <| zE0 rfl rfl rfl <| qO rfl <| zE0 rfl rfl rfl <| qO rfl <| zH0 rfl rfl rfl rfl sz30 rfl rfl (zA rfl) rfl <| qA rfl rfl rfl <| qN <| zK ?_
 exact zZ0 (.inr rfl) zT2 rfl rfl ta30 rfl (.refl _) (zJ1 _ (.mk n3 m3 s3 c3 w3)) rfl (.refl _) (.bool _) ⟨rfl, rfl⟩
theorem rj8 (ins : List Sch) (n1 m1 : Int) (s1 : List Bs) (c1 : List (List Tk)) (w1 : List Val) (n2 m2 : Int) (s2 : List Bs) (c2 : List (List Tk)) (w2 : List Val) (n3 m3 : Int) (s3 : List Bs) (c3 : List (List Tk)) (w3 : List Val) (o : Bool) (hj : ∀ S : MS, MCalls Tryz.prog 62 [encS (.mk 8 ins), encV (.mk n1 m1 s1 c1 w1), encV (.mk n2 m2 s2 c2 w2)] S fun v σ' => v = .tup [encV (.mk n3 m3 s3 c3 w3), .bool o] ∧ σ' = S) (S : MS) : MCalls Tryz.prog 32 [encS (.mk 8 ins), encV (.mk n1 m1 s1 c1 w1), encV (.mk n2 m2 s2 c2 w2)] S fun v σ' => v = .tup [encV (.mk n3 m3 s3 c3 w3), .bool o] ∧ σ' = S := by
 refine zU zP3 rfl zN3 (zA rfl) ?_
 refine zB <| qR rfl <| qB rfl rfl rfl rfl rfl <| qB rfl rfl rfl rfl rfl <| qB rfl rfl rfl rfl rfl <| qO rfl <| zN0 rfl zm30 rfl rfl <| qA rfl rfl rfl <| qN <| zB <| zB <| qR rfl <| qF rfl rfl rfl zG2 <| qL rfl rfl rfl rfl ta3 rfl <| qN <| zB0 <| zB <| zB <| qR rfl <| qC rfl rfl rfl rfl ((show _ = some false from rfl)) <| qA rfl rfl rfl <| qN ?_
 refine zL rfl (rfl) <| qR rfl <| qC rfl rfl rfl rfl ((show _ = some false from rfl)) <| qA rfl rfl rfl <| qN <| zL rfl (rfl) <| zB <| qR rfl <| qC rfl rfl rfl rfl ((show _ = some false from rfl)) <| qA rfl rfl rfl <| qN <| zL rfl (rfl) <| zB <| qR rfl <| qC rfl rfl rfl rfl ((show _ = some false from rfl)) <| qA rfl rfl rfl <| qN <| zL rfl (rfl) <| zB <| qR rfl <| qC rfl rfl rfl rfl ((show _ = some false from rfl)) <| qA rfl rfl rfl ?_
 refine qN <| zL rfl (rfl) <| zB <| qR rfl <| qC rfl rfl rfl rfl ((show _ = some false from rfl)) <| qA rfl rfl rfl <| qN <| zL rfl (rfl) <| zB <| qR rfl <| qC rfl rfl rfl rfl ((show _ = some false from rfl)) <| qA rfl rfl rfl <| qN <| zL rfl (rfl) <| zA0 <| zB <| qR rfl <| qL rfl rfl rfl rfl ta24 rfl <| qL rfl rfl rfl rfl ta30 rfl <| qL rfl rfl rfl rfl ta30 rfl ?_
 refine qX rfl rfl rfl rfl co62 (hj _) ?_
 refine qO rfl <| zE0 rfl rfl rfl <| qO rfl <| zE0 rfl rfl rfl <| qO rfl <| zH0 rfl rfl rfl rfl sz30 rfl rfl (zA rfl) rfl <| qA rfl rfl rfl <| qN <| zK ?_
 exact zZ0 (.inr rfl) zT2 rfl rfl ta30 rfl (.refl _) (zJ1 _ (.mk n3 m3 s3 c3 w3)) rfl (.refl _) (.bool _) ⟨rfl, rfl⟩
theorem rj6 (ins : List Sch) (n1 m1 : Int) (s1 : List Bs) (c1 : List (List Tk)) (w1 : List Val) (n2 m2 : Int) (s2 : List Bs) (c2 : List (List Tk)) (w2 : List Val) (n3 m3 : Int) (s3 : List Bs) (c3 : List (List Tk)) (w3 : List Val) (hz : laterF (.mk n1 m1 s1 c1 w1) (.mk n2 m2 s2 c2 w2) = (.mk n3 m3 s3 c3 w3)) (S : MS) : MCalls Tryz.prog 32 [encS (.mk 6 ins), encV (.mk n1 m1 s1 c1 w1), encV (.mk n2 m2 s2 c2 w2)] S fun v σ' => v = .tup [encV (.mk n3 m3 s3 c3 w3), .bool true] ∧ σ' = S := by
 refine zU zP3 rfl zN3 (zA rfl) ?_
 have hlt := fun S => rLater_spec (.mk n1 m1 s1 c1 w1) (.mk n2 m2 s2 c2 w2) S
 rw [hz] at hlt
 refine zB <| qR rfl <| qB rfl rfl rfl rfl rfl <| qB rfl rfl rfl rfl rfl <| qB rfl rfl rfl rfl rfl <| qO rfl <| zN0 rfl zm30 rfl rfl <| qA rfl rfl rfl <| qN <| zB <| zB <| qR rfl <| qF rfl rfl rfl zG2 <| qL rfl rfl rfl rfl ta3 rfl <| qN <| zB0 <| zB <| zB <| qR rfl <| qC rfl rfl rfl rfl ((show _ = some false from rfl)) <| qA rfl rfl rfl <| qN ?_
 refine zL rfl (rfl) <| qR rfl <| qC rfl rfl rfl rfl ((show _ = some false from rfl)) <| qA rfl rfl rfl <| qN <| zL rfl (rfl) <| zB <| qR rfl <| qC rfl rfl rfl rfl ((show _ = some false from rfl)) <| qA rfl rfl rfl <| qN <| zL rfl (rfl) <| zB <| qR rfl <| qC rfl rfl rfl rfl ((show _ = some false from rfl)) <| qA rfl rfl rfl <| qN <| zL rfl (rfl) <| zB <| qR rfl <| qC rfl rfl rfl rfl ((show _ = some false from rfl)) <| qA rfl rfl rfl ?_
 refine qN <| zL rfl (rfl) <| zB <| qR rfl <| qC rfl rfl rfl rfl ((show _ = some true from rfl)) <| qA rfl rfl rfl <| qN <| zW rfl (rfl) <| zB <| qR rfl <| qL rfl rfl rfl rfl ta30 rfl <| qL rfl rfl rfl rfl ta30 rfl ?_
 refine qX rfl rfl rfl rfl co59 (hlt _) ?_
 refine qO rfl <| zH0 rfl rfl rfl rfl sz30 rfl rfl (zA rfl) rfl <| qA rfl rfl rfl <| qN <| zK ?_
 exact zZ0 (.inr rfl) zT2 rfl rfl ta30 rfl (.refl _) (zJ1 _ (.mk n3 m3 s3 c3 w3)) rfl (.refl _) (.bool _) ⟨rfl, rfl⟩
theorem rj5 (k1 k2 : Int) (i1 i2 : List Sch) (xn xm : Int) (xs : List Bs) (xc : List (List Tk)) (xw : List Val) (un um : Int) (us : List Bs) (uc : List (List Tk)) (uw : List Val) (yn ym : Int) (ys : List Bs) (yc : List (List Tk)) (yw : List Val) (zn zm : Int) (zs : List Bs) (zc : List (List Tk)) (zw : List Val) (pn pm : Int) (ps : List Bs) (pc : List (List Tk)) (pw : List Val) (qn qm : Int) (qs : List Bs) (qc : List (List Tk)) (qw : List Val) (o1 o2 : Bool) (h1 : (∀ S : MS, MCalls Tryz.prog 32 [encS (.mk k1 i1), encV (.mk xn xm xs xc xw), encV (.mk yn ym ys yc yw)] S fun v σ' => v = .tup [encV (.mk pn pm ps pc pw), .bool o1] ∧ σ' = S)) (h2 : (∀ S : MS, MCalls Tryz.prog 32 [encS (.mk k2 i2), encV (.mk un um us uc uw), encV (.mk zn zm zs zc zw)] S fun v σ' => v = .tup [encV (.mk qn qm qs qc qw), .bool o2] ∧ σ' = S)) (S : MS) : MCalls Tryz.prog 32 [encS (.mk 5 [.mk k1 i1, .mk k2 i2]), encV (.mk 0 0 [] [] [(.mk xn xm xs xc xw), (.mk un um us uc uw)]), encV (.mk 0 0 [] [] [(.mk yn ym ys yc yw), (.mk zn zm zs zc zw)])] S fun v σ' => v = .tup [encV (.mk 0 0 [] [] [(.mk pn pm ps pc pw), (.mk qn qm qs qc qw)]), .bool (o1 && o2)] ∧ σ' = S := by
 refine zU zP3 rfl zN3 (zA rfl) ?_
 refine zB <| qR rfl <| qB rfl rfl rfl rfl rfl <| qB rfl rfl rfl rfl rfl <| qB rfl rfl rfl rfl rfl <| qO rfl <| zN0 rfl zm30 rfl rfl <| qA rfl rfl rfl <| qN <| zB <| zB <| qR rfl <| qF rfl rfl rfl zG2 <| qL rfl rfl rfl rfl ta3 rfl <| qN <| zB0 <| zB <| zB <| qR rfl <| qC rfl rfl rfl rfl ((show _ = some false from rfl)) <| qA rfl rfl rfl <| qN ?_
 refine zL rfl (rfl) <| qR rfl <| qC rfl rfl rfl rfl ((show _ = some false from rfl)) <| qA rfl rfl rfl <| qN <| zL rfl (rfl) <| zB <| qR rfl <| qC rfl rfl rfl rfl ((show _ = some false from rfl)) <| qA rfl rfl rfl <| qN <| zL rfl (rfl) <| zB <| qR rfl <| qC rfl rfl rfl rfl ((show _ = some false from rfl)) <| qA rfl rfl rfl <| qN <| zL rfl (rfl) <| zB <| qR rfl <| qC rfl rfl rfl rfl ((show _ = some true from rfl)) <| qA rfl rfl rfl ?_
 refine qN <| zW rfl (rfl) <| zB ?_
 refine zU0 [16, 17] [_, S ++ [.cells (encS (.mk 5 [.mk k1 i1, .mk k2 i2])).cells, .cells (encV (.mk 0 0 [] [] [(.mk xn xm xs xc xw), (.mk un um us uc uw)])).cells, .cells (encV (.mk 0 0 [] [] [(.mk yn ym ys yc yw), (.mk zn zm zs zc zw)])).cells, .cells [.int .u64 0, .int .u64 0, .lst0, .lst0, .lst0], .cells [.int .u64 0, .int .u64 0, .lst0, .lst0, .lst0]], S ++ [.cells (encS (.mk 5 [.mk k1 i1, .mk k2 i2])).cells, .cells (encV (.mk 0 0 [] [] [(.mk xn xm xs xc xw), (.mk un um us uc uw)])).cells, .cells (encV (.mk 0 0 [] [] [(.mk yn ym ys yc yw), (.mk zn zm zs zc zw)])).cells, .cells [.int .u64 0, .int .u64 0, .lst0, .lst0, .lst0], .cells (encV (.mk pn pm ps pc pw)).cells]] mo (by decide) rfl rfl rfl rfl ?_
 refine zS rfl rfl (.cons (zE rfl rfl zU2 ⟨rfl, rfl⟩) (.cons (zE rfl rfl zU2 ⟨rfl, rfl⟩) (.nil))) <| zS rfl rfl (.cons (zD0 rfl rfl rfl ta22 rfl ⟨rfl, rfl⟩) (.cons (zD0 rfl rfl rfl ta22 rfl ⟨rfl, rfl⟩) (.nil))) <| zS rfl rfl (.cons (zG rfl zR0 sz24 (by decide) rfl rfl rfl (show _ = some (encS (.mk k1 i1)) from rfl) ⟨rfl, rfl⟩) (.cons (zG rfl zR0 sz24 (by decide) rfl rfl rfl (show _ = some (encS (.mk k1 i1)) from rfl) ⟨rfl, rfl⟩) (.nil))) ?_
 refine zS rfl rfl (.cons (zH rfl rfl ta24 rfl ⟨rfl, rfl⟩) (.cons (zH rfl rfl ta24 rfl ⟨rfl, rfl⟩) (.nil))) <| zS rfl rfl (.cons (zE rfl rfl zF1 ⟨rfl, rfl⟩) (.cons (zE rfl rfl zF1 ⟨rfl, rfl⟩) (.nil))) <| zS rfl rfl (.cons (zD0 rfl rfl rfl ta28 rfl ⟨rfl, rfl⟩) (.cons (zD0 rfl rfl rfl ta28 rfl ⟨rfl, rfl⟩) (.nil))) <| zS rfl rfl (.cons (zG rfl zO sz30 (by decide) rfl rfl rfl (show _ = some (encV (.mk xn xm xs xc xw)) from rfl) ⟨rfl, rfl⟩) (.cons (zG rfl zO sz30 (by decide) rfl rfl rfl (show _ = some (encV (.mk xn xm xs xc xw)) from rfl) ⟨rfl, rfl⟩) (.nil))) ?_
 refine zS rfl rfl (.cons (zH rfl rfl ta30 rfl ⟨rfl, rfl⟩) (.cons (zH rfl rfl ta30 rfl ⟨rfl, rfl⟩) (.nil))) <| zS rfl rfl (.cons (zE rfl rfl zF1 ⟨rfl, rfl⟩) (.cons (zE rfl rfl zF1 ⟨rfl, rfl⟩) (.nil))) <| zS rfl rfl (.cons (zD0 rfl rfl rfl ta28 rfl ⟨rfl, rfl⟩) (.cons (zD0 rfl rfl rfl ta28 rfl ⟨rfl, rfl⟩) (.nil))) <| zS rfl rfl (.cons (zG rfl zO sz30 (by decide) rfl rfl rfl (show _ = some (encV (.mk yn ym ys yc yw)) from rfl) ⟨rfl, rfl⟩) (.cons (zG rfl zO sz30 (by decide) rfl rfl rfl (show _ = some (encV (.mk yn ym ys yc yw)) from rfl) ⟨rfl, rfl⟩) (.nil))) ?_
 refine zS rfl rfl (.cons (zH rfl rfl ta30 rfl ⟨rfl, rfl⟩) (.cons (zH rfl rfl ta30 rfl ⟨rfl, rfl⟩) (.nil))) <| zS rfl rfl (.cons (zH1 rfl rfl rfl co32 (h1 _)) (.cons (zH1 rfl rfl rfl co32 (h1 _)) (.nil))) <| zS rfl rfl (.cons (zV rfl rfl ⟨rfl, rfl⟩) (.cons (zV rfl rfl ⟨rfl, rfl⟩) (.nil))) <| zS rfl rfl (.cons (zE0 rfl rfl rfl ⟨rfl, rfl⟩) (.cons (zE0 rfl rfl rfl ⟨rfl, rfl⟩) (.nil))) <| zS rfl rfl (.cons (zE0 rfl rfl rfl ⟨rfl, rfl⟩) (.cons (zE0 rfl rfl rfl ⟨rfl, rfl⟩) (.cons (zE0 rfl rfl rfl ⟨rfl, rfl⟩) (.nil)))) <| zX0 rfl rfl rfl rfl (zN0 rfl zm30 rfl rfl ⟨rfl, rfl⟩) <| zX0 rfl rfl rfl rfl (zH0 rfl rfl rfl rfl sz30 rfl rfl (zA rfl) rfl ⟨rfl, rfl⟩) <| dO rfl rfl rfl (zB1 rfl rfl ⟨rfl, rfl⟩) <| zL0 <| zB ?_
 refine zU0 [16, 17] [_, S ++ [.cells (encS (.mk 5 [.mk k1 i1, .mk k2 i2])).cells, .cells (encV (.mk 0 0 [] [] [(.mk xn xm xs xc xw), (.mk un um us uc uw)])).cells, .cells (encV (.mk 0 0 [] [] [(.mk yn ym ys yc yw), (.mk zn zm zs zc zw)])).cells, .cells [.int .u64 0, .int .u64 0, .lst0, .lst0, .lst0], .cells (encV (.mk pn pm ps pc pw)).cells, .cells [.int .u64 0, .int .u64 0, .lst0, .lst0, .lst0]], S ++ [.cells (encS (.mk 5 [.mk k1 i1, .mk k2 i2])).cells, .cells (encV (.mk 0 0 [] [] [(.mk xn xm xs xc xw), (.mk un um us uc uw)])).cells, .cells (encV (.mk 0 0 [] [] [(.mk yn ym ys yc yw), (.mk zn zm zs zc zw)])).cells, .cells [.int .u64 0, .int .u64 0, .lst0, .lst0, .lst0], .cells (encV (.mk pn pm ps pc pw)).cells, .cells (encV (.mk qn qm qs qc qw)).cells]] mo (by decide) rfl rfl rfl rfl ?_
 refine zS rfl rfl (.cons (zE rfl rfl zU2 ⟨rfl, rfl⟩) (.cons (zE rfl rfl zU2 ⟨rfl, rfl⟩) (.nil))) <| zS rfl rfl (.cons (zD0 rfl rfl rfl ta22 rfl ⟨rfl, rfl⟩) (.cons (zD0 rfl rfl rfl ta22 rfl ⟨rfl, rfl⟩) (.nil))) <| zS rfl rfl (.cons (zG rfl zR0 sz24 (by decide) rfl rfl rfl (show _ = some (encS (.mk k2 i2)) from rfl) ⟨rfl, rfl⟩) (.cons (zG rfl zR0 sz24 (by decide) rfl rfl rfl (show _ = some (encS (.mk k2 i2)) from rfl) ⟨rfl, rfl⟩) (.nil))) ?_
 refine zS rfl rfl (.cons (zH rfl rfl ta24 rfl ⟨rfl, rfl⟩) (.cons (zH rfl rfl ta24 rfl ⟨rfl, rfl⟩) (.nil))) <| zS rfl rfl (.cons (zE rfl rfl zF1 ⟨rfl, rfl⟩) (.cons (zE rfl rfl zF1 ⟨rfl, rfl⟩) (.nil))) <| zS rfl rfl (.cons (zD0 rfl rfl rfl ta28 rfl ⟨rfl, rfl⟩) (.cons (zD0 rfl rfl rfl ta28 rfl ⟨rfl, rfl⟩) (.nil))) <| zS rfl rfl (.cons (zG rfl zO sz30 (by decide) rfl rfl rfl (show _ = some (encV (.mk un um us uc uw)) from rfl) ⟨rfl, rfl⟩) (.cons (zG rfl zO sz30 (by decide) rfl rfl rfl (show _ = some (encV (.mk un um us uc uw)) from rfl) ⟨rfl, rfl⟩) (.nil))) ?_
 refine zS rfl rfl (.cons (zH rfl rfl ta30 rfl ⟨rfl, rfl⟩) (.cons (zH rfl rfl ta30 rfl ⟨rfl, rfl⟩) (.nil))) <| zS rfl rfl (.cons (zE rfl rfl zF1 ⟨rfl, rfl⟩) (.cons (zE rfl rfl zF1 ⟨rfl, rfl⟩) (.nil))) <| zS rfl rfl (.cons (zD0 rfl rfl rfl ta28 rfl ⟨rfl, rfl⟩) (.cons (zD0 rfl rfl rfl ta28 rfl ⟨rfl, rfl⟩) (.nil))) <| zS rfl rfl (.cons (zG rfl zO sz30 (by decide) rfl rfl rfl (show _ = some (encV (.mk zn zm zs zc zw)) from rfl) ⟨rfl, rfl⟩) (.cons (zG rfl zO sz30 (by decide) rfl rfl rfl (show _ = some (encV (.mk zn zm zs zc zw)) from rfl) ⟨rfl, rfl⟩) (.nil))) ?_
 refine zS rfl rfl (.cons (zH rfl rfl ta30 rfl ⟨rfl, rfl⟩) (.cons (zH rfl rfl ta30 rfl ⟨rfl, rfl⟩) (.nil))) <| zS rfl rfl (.cons (zH1 rfl rfl rfl co32 (h2 _)) (.cons (zH1 rfl rfl rfl co32 (h2 _)) (.nil))) <| zS rfl rfl (.cons (zV rfl rfl ⟨rfl, rfl⟩) (.cons (zV rfl rfl ⟨rfl, rfl⟩) (.nil))) <| zS rfl rfl (.cons (zE0 rfl rfl rfl ⟨rfl, rfl⟩) (.cons (zE0 rfl rfl rfl ⟨rfl, rfl⟩) (.nil))) <| zS rfl rfl (.cons (zE0 rfl rfl rfl ⟨rfl, rfl⟩) (.cons (zE0 rfl rfl rfl ⟨rfl, rfl⟩) (.cons (zE0 rfl rfl rfl ⟨rfl, rfl⟩) (.nil)))) <| zX0 rfl rfl rfl rfl (zN0 rfl zm30 rfl rfl ⟨rfl, rfl⟩) <| zX0 rfl rfl rfl rfl (zH0 rfl rfl rfl rfl sz30 rfl rfl (zA rfl) rfl ⟨rfl, rfl⟩) <| dO rfl rfl rfl (zB1 rfl rfl ⟨rfl, rfl⟩) <| zL0 <| zB <| qR rfl <| qL rfl rfl rfl rfl ta30 rfl <| qL rfl rfl rfl rfl ta30 rfl <| qO rfl <| zC1 rfl zO el30 rfl rfl (by decide) (by decide) rfl rfl ?_
 refine qO rfl <| zV2 (y := encV (.mk 0 0 [] [] [(.mk pn pm ps pc pw), (.mk qn qm qs qc qw)])) (zW1 rfl zS0 zm30 (.cons zF1 sz28 rfl rfl (zA rfl) .nil) (by kernel_rfl) ⟨rfl, rfl⟩) (.agg (.cons (.refl _) (.cons (.refl _) (.cons (.nil 1) (.cons (.nil 1) (.cons (.refl _) .nil)))))) ?_
 refine qM rfl rfl rfl <| qM rfl rfl rfl ?_
 refine zG0 (fun h85 => ?_) (fun h85 => ?_)
 ·
  refine qM rfl rfl rfl <| qP rfl rfl rfl rfl <| qO rfl <| zH0 rfl rfl rfl rfl sz30 rfl rfl (zA rfl) rfl <| qA rfl rfl rfl <| qN <| zK ?_
  exact zZ0 (.inr rfl) zT2 rfl rfl ta30 rfl (.refl _) (zJ1 _ (.mk 0 0 [] [] [(.mk pn pm ps pc pw), (.mk qn qm qs qc qw)])) rfl (.of_eq (by rw [h85]; rfl)) (.bool _) ⟨rfl, rfl⟩
 ·
  refine qS rfl <| qP rfl rfl rfl rfl <| qO rfl <| zH0 rfl rfl rfl rfl sz30 rfl rfl (zA rfl) rfl <| qA rfl rfl rfl <| qN <| zK ?_
  exact zZ0 (.inr rfl) zT2 rfl rfl ta30 rfl (.refl _) (zJ1 _ (.mk 0 0 [] [] [(.mk pn pm ps pc pw), (.mk qn qm qs qc qw)])) rfl (.of_eq (by rw [h85]; rfl)) (.bool _) ⟨rfl, rfl⟩
theorem rj7a (x y : List Tk) (hl : x.length + y.length ≤ 1000) (ins : List Sch) (n3 m3 : Int) (s3 : List Bs) (c3 : List (List Tk)) (w3 : List Val) (hz : (clkV (rjoinF x y)) = (.mk n3 m3 s3 c3 w3)) (S : MS) : MCalls Tryz.prog 32 [encS (.mk 7 ins), encV (.mk 0 0 [] [x] []), encV (.mk 0 0 [] [y] [])] S fun v σ' => v = .tup [encV (.mk n3 m3 s3 c3 w3), .bool (decide ((rjoinF x y).length ≤ 40))] ∧ σ' = S := by
 refine zU zP3 rfl zN3 (zA rfl) ?_
 have hck := fun S => rClocks_spec (rjoinF x y) S
 rw [hz] at hck
 refine zB <| qR rfl <| qB rfl rfl rfl rfl rfl <| qB rfl rfl rfl rfl rfl <| qB rfl rfl rfl rfl rfl <| qO rfl <| zN0 rfl zm30 rfl rfl <| qA rfl rfl rfl <| qN <| zB <| zB <| qR rfl <| qF rfl rfl rfl zG2 <| qL rfl rfl rfl rfl ta3 rfl <| qN <| zB0 <| zB <| zB <| qR rfl <| qC rfl rfl rfl rfl ((show _ = some false from rfl)) <| qA rfl rfl rfl <| qN ?_
 refine zL rfl (rfl) <| qR rfl <| qC rfl rfl rfl rfl ((show _ = some false from rfl)) <| qA rfl rfl rfl <| qN <| zL rfl (rfl) <| zB <| qR rfl <| qC rfl rfl rfl rfl ((show _ = some false from rfl)) <| qA rfl rfl rfl <| qN <| zL rfl (rfl) <| zB <| qR rfl <| qC rfl rfl rfl rfl ((show _ = some false from rfl)) <| qA rfl rfl rfl <| qN <| zL rfl (rfl) <| zB <| qR rfl <| qC rfl rfl rfl rfl ((show _ = some false from rfl)) <| qA rfl rfl rfl ?_
 refine qN <| zL rfl (rfl) <| zB <| qR rfl <| qC rfl rfl rfl rfl ((show _ = some false from rfl)) <| qA rfl rfl rfl <| qN <| zL rfl (rfl) <| zB <| qR rfl <| qC rfl rfl rfl rfl ((show _ = some true from rfl)) <| qA rfl rfl rfl <| qN <| zW rfl (rfl) <| zB <| qR rfl <| qA rfl rfl rfl <| qA rfl rfl rfl <| qN <| zB <| zB <| qR rfl <| qF rfl rfl rfl zI1 ?_
 refine qL rfl rfl rfl rfl ta27 rfl <| qE rfl rfl zM rfl <| qC rfl rfl rfl rfl ((show _ = some true from rfl)) <| qN <| zW rfl (rfl) <| qR rfl <| qF rfl rfl rfl zI1 <| qL rfl rfl rfl rfl ta27 rfl <| qO rfl <| zG rfl zM sz60 (by decide) rfl rfl rfl (show _ = some (encC x) from rfl) ?_
 refine qO rfl <| zH rfl rfl ta60 rfl <| qA rfl rfl rfl <| qN <| zB <| zB <| qR rfl <| qF rfl rfl rfl zI1 <| qL rfl rfl rfl rfl ta27 rfl <| qE rfl rfl zM rfl <| qC rfl rfl rfl rfl ((show _ = some true from rfl)) <| qN <| zW rfl (rfl) <| qR rfl <| qF rfl rfl rfl zI1 <| qL rfl rfl rfl rfl ta27 rfl <| qO rfl <| zG rfl zM sz60 (by decide) rfl rfl rfl (show _ = some (encC y) from rfl) ?_
 refine qO rfl <| zH rfl rfl ta60 rfl <| qA rfl rfl rfl <| qN <| zB <| qR rfl <| qM rfl rfl rfl <| qM rfl rfl rfl ?_
 refine qX rfl rfl rfl rfl co61 ((zG5 x y (by first | (simp; done) | (simp; omega)) _).sub (.cons (.refl _) (.cons (.refl _) .nil))) ?_
 refine qX rfl rfl rfl rfl co60 (hck _) ?_
 refine qM rfl rfl rfl <| qM rfl rfl rfl ?_
 refine qX rfl rfl rfl rfl co61 ((zG5 x y (by first | (simp; done) | (simp; omega)) _).sub (.cons (.refl _) (.cons (.refl _) .nil))) ?_
 refine qE rfl rfl zP rfl <| qC rfl rfl rfl rfl ((show _ = some (decide ((rjoinF x y).length ≤ 40)) from by simp [intCmp]; omega)) ?_
 refine qO rfl <| zH0 rfl rfl rfl rfl sz30 rfl rfl (zA rfl) rfl <| qA rfl rfl rfl <| qN <| zK ?_
 exact zZ0 (.inr rfl) zT2 rfl rfl ta30 rfl (.refl _) (zJ1 _ (.mk n3 m3 s3 c3 w3)) rfl (.refl _) (.bool _) ⟨rfl, rfl⟩
theorem rj7b (x y : List Tk) (hl : x.length + y.length ≤ 1000) (ins : List Sch) (n3 m3 : Int) (s3 : List Bs) (c3 : List (List Tk)) (w3 : List Val) (hz : (clkV (rjoinF x [])) = (.mk n3 m3 s3 c3 w3)) (S : MS) : MCalls Tryz.prog 32 [encS (.mk 7 ins), encV (.mk 0 0 [] [x] []), encV (.mk 0 0 [] [] [])] S fun v σ' => v = .tup [encV (.mk n3 m3 s3 c3 w3), .bool (decide ((rjoinF x []).length ≤ 40))] ∧ σ' = S := by
 refine zU zP3 rfl zN3 (zA rfl) ?_
 have hck := fun S => rClocks_spec (rjoinF x []) S
 rw [hz] at hck
 refine zB <| qR rfl <| qB rfl rfl rfl rfl rfl <| qB rfl rfl rfl rfl rfl <| qB rfl rfl rfl rfl rfl <| qO rfl <| zN0 rfl zm30 rfl rfl <| qA rfl rfl rfl <| qN <| zB <| zB <| qR rfl <| qF rfl rfl rfl zG2 <| qL rfl rfl rfl rfl ta3 rfl <| qN <| zB0 <| zB <| zB <| qR rfl <| qC rfl rfl rfl rfl ((show _ = some false from rfl)) <| qA rfl rfl rfl <| qN ?_
 refine zL rfl (rfl) <| qR rfl <| qC rfl rfl rfl rfl ((show _ = some false from rfl)) <| qA rfl rfl rfl <| qN <| zL rfl (rfl) <| zB <| qR rfl <| qC rfl rfl rfl rfl ((show _ = some false from rfl)) <| qA rfl rfl rfl <| qN <| zL rfl (rfl) <| zB <| qR rfl <| qC rfl rfl rfl rfl ((show _ = some false from rfl)) <| qA rfl rfl rfl <| qN <| zL rfl (rfl) <| zB <| qR rfl <| qC rfl rfl rfl rfl ((show _ = some false from rfl)) <| qA rfl rfl rfl ?_
 refine qN <| zL rfl (rfl) <| zB <| qR rfl <| qC rfl rfl rfl rfl ((show _ = some false from rfl)) <| qA rfl rfl rfl <| qN <| zL rfl (rfl) <| zB <| qR rfl <| qC rfl rfl rfl rfl ((show _ = some true from rfl)) <| qA rfl rfl rfl <| qN <| zW rfl (rfl) <| zB <| qR rfl <| qA rfl rfl rfl <| qA rfl rfl rfl <| qN <| zB <| zB <| qR rfl <| qF rfl rfl rfl zI1 ?_
 refine qL rfl rfl rfl rfl ta27 rfl <| qE rfl rfl zM rfl <| qC rfl rfl rfl rfl ((show _ = some true from rfl)) <| qN <| zW rfl (rfl) <| qR rfl <| qF rfl rfl rfl zI1 <| qL rfl rfl rfl rfl ta27 rfl <| qO rfl <| zG rfl zM sz60 (by decide) rfl rfl rfl (show _ = some (encC x) from rfl) ?_
 refine qO rfl <| zH rfl rfl ta60 rfl <| qA rfl rfl rfl <| qN <| zB <| zB <| qR rfl <| qF rfl rfl rfl zI1 <| qL rfl rfl rfl rfl ta27 rfl <| qE rfl rfl zM rfl <| qC rfl rfl rfl rfl ((show _ = some false from rfl)) <| qN <| zL rfl (rfl) <| zA0 <| zB <| qR rfl <| qM rfl rfl rfl <| qM rfl rfl rfl ?_
 refine qX rfl rfl rfl rfl co61 ((zG5 x [] (by first | (simp; done) | (simp; omega)) _).sub (.cons (.refl _) (.cons (.nil 2) .nil))) ?_
 refine qX rfl rfl rfl rfl co60 (hck _) ?_
 refine qM rfl rfl rfl <| qM rfl rfl rfl ?_
 refine qX rfl rfl rfl rfl co61 ((zG5 x [] (by first | (simp; done) | (simp; omega)) _).sub (.cons (.refl _) (.cons (.nil 2) .nil))) ?_
 refine qE rfl rfl zP rfl <| qC rfl rfl rfl rfl ((show _ = some (decide ((rjoinF x []).length ≤ 40)) from by simp [intCmp]; omega)) ?_
 refine qO rfl <| zH0 rfl rfl rfl rfl sz30 rfl rfl (zA rfl) rfl <| qA rfl rfl rfl <| qN <| zK ?_
 exact zZ0 (.inr rfl) zT2 rfl rfl ta30 rfl (.refl _) (zJ1 _ (.mk n3 m3 s3 c3 w3)) rfl (.refl _) (.bool _) ⟨rfl, rfl⟩
theorem rj7c (x y : List Tk) (hl : x.length + y.length ≤ 1000) (ins : List Sch) (n3 m3 : Int) (s3 : List Bs) (c3 : List (List Tk)) (w3 : List Val) (hz : (clkV (rjoinF [] y)) = (.mk n3 m3 s3 c3 w3)) (S : MS) : MCalls Tryz.prog 32 [encS (.mk 7 ins), encV (.mk 0 0 [] [] []), encV (.mk 0 0 [] [y] [])] S fun v σ' => v = .tup [encV (.mk n3 m3 s3 c3 w3), .bool (decide ((rjoinF [] y).length ≤ 40))] ∧ σ' = S := by
 refine zU zP3 rfl zN3 (zA rfl) ?_
 have hck := fun S => rClocks_spec (rjoinF [] y) S
 rw [hz] at hck
 refine zB <| qR rfl <| qB rfl rfl rfl rfl rfl <| qB rfl rfl rfl rfl rfl <| qB rfl rfl rfl rfl rfl <| qO rfl <| zN0 rfl zm30 rfl rfl <| qA rfl rfl rfl <| qN <| zB <| zB <| qR rfl <| qF rfl rfl rfl zG2 <| qL rfl rfl rfl rfl ta3 rfl <| qN <| zB0 <| zB <| zB <| qR rfl <| qC rfl rfl rfl rfl ((show _ = some false from rfl)) <| qA rfl rfl rfl <| qN ?_
 refine zL rfl (rfl) <| qR rfl <| qC rfl rfl rfl rfl ((show _ = some false from rfl)) <| qA rfl rfl rfl <| qN <| zL rfl (rfl) <| zB <| qR rfl <| qC rfl rfl rfl rfl ((show _ = some false from rfl)) <| qA rfl rfl rfl <| qN <| zL rfl (rfl) <| zB <| qR rfl <| qC rfl rfl rfl rfl ((show _ = some false from rfl)) <| qA rfl rfl rfl <| qN <| zL rfl (rfl) <| zB <| qR rfl <| qC rfl rfl rfl rfl ((show _ = some false from rfl)) <| qA rfl rfl rfl ?_
 refine qN <| zL rfl (rfl) <| zB <| qR rfl <| qC rfl rfl rfl rfl ((show _ = some false from rfl)) <| qA rfl rfl rfl <| qN <| zL rfl (rfl) <| zB <| qR rfl <| qC rfl rfl rfl rfl ((show _ = some true from rfl)) <| qA rfl rfl rfl <| qN <| zW rfl (rfl) <| zB <| qR rfl <| qA rfl rfl rfl <| qA rfl rfl rfl <| qN <| zB <| zB <| qR rfl <| qF rfl rfl rfl zI1 ?_
 refine qL rfl rfl rfl rfl ta27 rfl <| qE rfl rfl zM rfl <| qC rfl rfl rfl rfl ((show _ = some false from rfl)) <| qN <| zL rfl (rfl) <| zA0 <| zB <| zB <| qR rfl <| qF rfl rfl rfl zI1 <| qL rfl rfl rfl rfl ta27 rfl <| qE rfl rfl zM rfl <| qC rfl rfl rfl rfl ((show _ = some true from rfl)) <| qN <| zW rfl (rfl) <| qR rfl <| qF rfl rfl rfl zI1 <| qL rfl rfl rfl rfl ta27 rfl <| qO rfl <| zG rfl zM sz60 (by decide) rfl rfl rfl (show _ = some (encC y) from rfl) ?_
 refine qO rfl <| zH rfl rfl ta60 rfl <| qA rfl rfl rfl <| qN <| zB <| qR rfl <| qM rfl rfl rfl <| qM rfl rfl rfl ?_
 refine qX rfl rfl rfl rfl co61 ((zG5 [] y (by first | (simp; done) | (simp; omega)) _).sub (.cons (.nil 2) (.cons (.refl _) .nil))) ?_
 refine qX rfl rfl rfl rfl co60 (hck _) ?_
 refine qM rfl rfl rfl <| qM rfl rfl rfl ?_
 refine qX rfl rfl rfl rfl co61 ((zG5 [] y (by first | (simp; done) | (simp; omega)) _).sub (.cons (.nil 2) (.cons (.refl _) .nil))) ?_
 refine qE rfl rfl zP rfl <| qC rfl rfl rfl rfl ((show _ = some (decide ((rjoinF [] y).length ≤ 40)) from by simp [intCmp]; omega)) ?_
 refine qO rfl <| zH0 rfl rfl rfl rfl sz30 rfl rfl (zA rfl) rfl <| qA rfl rfl rfl <| qN <| zK ?_
 exact zZ0 (.inr rfl) zT2 rfl rfl ta30 rfl (.refl _) (zJ1 _ (.mk n3 m3 s3 c3 w3)) rfl (.refl _) (.bool _) ⟨rfl, rfl⟩
theorem rj7d (x y : List Tk) (hl : x.length + y.length ≤ 1000) (ins : List Sch) (n3 m3 : Int) (s3 : List Bs) (c3 : List (List Tk)) (w3 : List Val) (hz : (clkV (rjoinF [] [])) = (.mk n3 m3 s3 c3 w3)) (S : MS) : MCalls Tryz.prog 32 [encS (.mk 7 ins), encV (.mk 0 0 [] [] []), encV (.mk 0 0 [] [] [])] S fun v σ' => v = .tup [encV (.mk n3 m3 s3 c3 w3), .bool (decide ((rjoinF [] []).length ≤ 40))] ∧ σ' = S := by
 refine zU zP3 rfl zN3 (zA rfl) ?_
 have hck := fun S => rClocks_spec (rjoinF [] []) S
 rw [hz] at hck
 refine zB <| qR rfl <| qB rfl rfl rfl rfl rfl <| qB rfl rfl rfl rfl rfl <| qB rfl rfl rfl rfl rfl <| qO rfl <| zN0 rfl zm30 rfl rfl <| qA rfl rfl rfl <| qN <| zB <| zB <| qR rfl <| qF rfl rfl rfl zG2 <| qL rfl rfl rfl rfl ta3 rfl <| qN <| zB0 <| zB <| zB <| qR rfl <| qC rfl rfl rfl rfl ((show _ = some false from rfl)) <| qA rfl rfl rfl <| qN ?_
 refine zL rfl (rfl) <| qR rfl <| qC rfl rfl rfl rfl ((show _ = some false from rfl)) <| qA rfl rfl rfl <| qN <| zL rfl (rfl) <| zB <| qR rfl <| qC rfl rfl rfl rfl ((show _ = some false from rfl)) <| qA rfl rfl rfl <| qN <| zL rfl (rfl) <| zB <| qR rfl <| qC rfl rfl rfl rfl ((show _ = some false from rfl)) <| qA rfl rfl rfl <| qN <| zL rfl (rfl) <| zB <| qR rfl <| qC rfl rfl rfl rfl ((show _ = some false from rfl)) <| qA rfl rfl rfl ?_
 refine qN <| zL rfl (rfl) <| zB <| qR rfl <| qC rfl rfl rfl rfl ((show _ = some false from rfl)) <| qA rfl rfl rfl <| qN <| zL rfl (rfl) <| zB <| qR rfl <| qC rfl rfl rfl rfl ((show _ = some true from rfl)) <| qA rfl rfl rfl <| qN <| zW rfl (rfl) <| zB <| qR rfl <| qA rfl rfl rfl <| qA rfl rfl rfl <| qN <| zB <| zB <| qR rfl <| qF rfl rfl rfl zI1 ?_
 refine qL rfl rfl rfl rfl ta27 rfl <| qE rfl rfl zM rfl <| qC rfl rfl rfl rfl ((show _ = some false from rfl)) <| qN <| zL rfl (rfl) <| zA0 <| zB <| zB <| qR rfl <| qF rfl rfl rfl zI1 <| qL rfl rfl rfl rfl ta27 rfl <| qE rfl rfl zM rfl <| qC rfl rfl rfl rfl ((show _ = some false from rfl)) <| qN <| zL rfl (rfl) <| zA0 <| zB <| qR rfl <| qM rfl rfl rfl <| qM rfl rfl rfl ?_
 refine qX rfl rfl rfl rfl co61 ((zG5 [] [] (by first | (simp; done) | (simp; omega)) _).sub (.cons (.nil 2) (.cons (.nil 2) .nil))) ?_
 refine qX rfl rfl rfl rfl co60 (hck _) ?_
 refine qM rfl rfl rfl <| qM rfl rfl rfl ?_
 refine qX rfl rfl rfl rfl co61 ((zG5 [] [] (by first | (simp; done) | (simp; omega)) _).sub (.cons (.nil 2) (.cons (.nil 2) .nil))) ?_
 refine qE rfl rfl zP rfl <| qC rfl rfl rfl rfl ((show _ = some (decide ((rjoinF [] []).length ≤ 40)) from by simp [intCmp]; omega)) ?_
 refine qO rfl <| zH0 rfl rfl rfl rfl sz30 rfl rfl (zA rfl) rfl <| qA rfl rfl rfl <| qN <| zK ?_
 exact zZ0 (.inr rfl) zT2 rfl rfl ta30 rfl (.refl _) (zJ1 _ (.mk n3 m3 s3 c3 w3)) rfl (.refl _) (.bool _) ⟨rfl, rfl⟩
def RJ (s : Sch) (a b : Val) : Prop := ∀ S : MS, MCalls Tryz.prog 32 [encS s, encV a, encV b] S fun v σ' => v = .tup [encV (jn s a b), .bool (okJ s a b)] ∧ σ' = S
theorem rj_of {s : Sch} {a b r : Val} {o : Bool} (hr : jn s a b = r) (ho : okJ s a b = o) (h : ∀ S : MS, MCalls Tryz.prog 32 [encS s, encV a, encV b] S fun v σ' => v = .tup [encV r, .bool o] ∧ σ' = S) : RJ s a b := by
  subst hr ho
  exact h
theorem no_ins {k : Int} {ins : List Sch} (h : partsF k = (ins.length : Int)) (hk : partsF k = 0) : ins = [] := List.eq_nil_of_length_eq_zero (by omega)
theorem isV_parts {ins : List Sch} {k n m : Int} {s : List Bs} {c : List (List Tk)} {w : List Val} (h : isVF (.mk k ins) (.mk n m s c w) = true) : w.length ≤ 40 ∧ c.length ≤ 40 := by
  rw [zO1] at h
  simp only [Bool.and_eq_true, decide_eq_true_eq] at h
  exact ⟨h.1.1.2, h.1.2⟩
theorem isM4 {t : Sch} {l : List (Bs × Val)} (h : isVF (.mk 4 [t]) (mapL l) = true) : l.length ≤ 40 ∧ ∀ e ∈ l, isVF t e.2 = true := by
  have h1 := (isV_parts (show isVF (.mk 4 [t]) (.mk 0 0 (l.map (·.1)) [] (l.map (·.2))) = true from h)).1
  rw [zC] at h1
  refine ⟨h1, fun e he => ?_⟩
  have h : isVF (.mk 4 [t]) (.mk 0 0 (l.map (·.1)) [] (l.map (·.2))) = true := h
  rw [zO1 4] at h
  simp only [Bool.and_eq_true] at h
  have h2 := h.2
  simp only [show ¬ ((4 : Int) = 1) by decide, show ¬ ((4 : Int) = 2) by decide, show ¬ ((4 : Int) = 3) by decide, if_false, if_true, Bool.and_eq_true, List.all_eq_true] at h2
  have := h2.2 e.2 (List.mem_map.2 ⟨e, he, rfl⟩)
  simp [isVL] at this
  exact this.1
theorem isM8 {t : Sch} {l : List (List Tk × Val)} (h : isVF (.mk 8 [t]) (cauL l) = true) : l.length ≤ 40 ∧ ∀ e ∈ l, isVF t e.2 = true := by
  have h1 := (isV_parts (show isVF (.mk 8 [t]) (.mk 0 0 [] (l.map (·.1)) (l.map (·.2))) = true from h)).1
  rw [zC] at h1
  refine ⟨h1, fun e he => ?_⟩
  have h : isVF (.mk 8 [t]) (.mk 0 0 [] (l.map (·.1)) (l.map (·.2))) = true := h
  rw [zO1 8] at h
  simp only [Bool.and_eq_true] at h
  have h2 := h.2
  simp only [show ¬ ((8 : Int) = 1) by decide, show ¬ ((8 : Int) = 2) by decide, show ¬ ((8 : Int) = 3) by decide, show ¬ ((8 : Int) = 4) by decide, show ¬ ((8 : Int) = 5) by decide, show ¬ ((8 : Int) = 6) by decide, show ¬ ((8 : Int) = 7) by decide, if_false, Bool.and_eq_true, List.all_eq_true] at h2
  have := h2.2 e.2 (List.mem_map.2 ⟨e, he, rfl⟩)
  simpa [isVL] using this
theorem zip_ml {κ : Type} (l : List (κ × Val)) : (l.map (·.1)).zip (l.map (·.2)) = l := zip_map l
theorem rj_map {t : Sch} (hF : isF 16 t = true) (ih : ∀ x y : Val, okV x → okV y → isVF t x = true → isVF t y = true → RJ t x y) {A B : List (Bs × Val)} (ra : R4 (LV t) (bottomF t) A) (rb : R4 (LV t) (bottomF t) B) (oa : okV (mapL A)) (ob : okV (mapL B)) (va : isVF (.mk 4 [t]) (mapL A) = true) (vb : isVF (.mk 4 [t]) (mapL B) = true) : RJ (.mk 4 [t]) (mapL A) (mapL B) := by
  obtain ⟨k1, i1⟩ := t
  have ha4 := isM4 va
  have hb4 := isM4 vb
  have pa := okV_mk.1 (show okV (.mk 0 0 (A.map (·.1)) [] (A.map (·.2))) from oa)
  have pb := okV_mk.1 (show okV (.mk 0 0 (B.map (·.1)) [] (B.map (·.2))) from ob)
  have hr1 : ∀ x ∈ A.map (·.2), okV x ∧ isVF (.mk k1 i1) x = true := fun x hx => ⟨pa.2.2.2 x hx, by obtain ⟨e, he, rfl⟩ := List.mem_map.1 hx; exact ha4.2 e he⟩
  have hr2 : ∀ x ∈ B.map (·.2), okV x ∧ isVF (.mk k1 i1) x = true := fun x hx => ⟨pb.2.2.2 x hx, by obtain ⟨e, he, rfl⟩ := List.mem_map.1 hx; exact hb4.2 e he⟩
  have hlA : (A.map (·.1)).length = (A.map (·.2)).length := by simp
  have hlB : (B.map (·.1)).length = (B.map (·.2)).length := by simp
  have hm := fun S => rMaps_spec k1 i1 hF (A.map (·.1)) (B.map (·.1)) (A.map (·.2)) (B.map (·.2)) hlA hlB (srt_up ra.srt) (srt_up rb.srt) (by rw [zC]; exact ha4.1) (by rw [zC]; exact hb4.1) hr1 hr2 (fun x y ox oy vx vy => ih x y ox oy vx vy) S
  have hlk : ∀ k, lkI (bottomF (.mk k1 i1)) (A.map (·.1)) (A.map (·.2)) k = lkB (bottomF (.mk k1 i1)) A k := fun k => by rw [lkI_look hlA, zip_ml]
  have hlk2 : ∀ k, lkI (bottomF (.mk k1 i1)) (B.map (·.1)) (B.map (·.2)) k = lkB (bottomF (.mk k1 i1)) B k := fun k => by rw [lkI_look hlB, zip_ml]
  have hsm := sem 16 (.mk k1 i1) hF
  refine rj_of (r := Val.mk 0 0 (bothX (A.map (fun e : Bs × Val => e.1)) (B.map (fun e : Bs × Val => e.1))) [] (mpV (.mk k1 i1) (A.map (fun e : Bs × Val => e.1)) (A.map (fun e : Bs × Val => e.2)) (B.map (fun e : Bs × Val => e.1)) (B.map (fun e : Bs × Val => e.2)) (bothX (A.map (fun e : Bs × Val => e.1)) (B.map (fun e : Bs × Val => e.1))))) (o := decide ((bothX (A.map (fun e : Bs × Val => e.1)) (B.map (fun e : Bs × Val => e.1))).length ≤ 40) && mpO (.mk k1 i1) (A.map (fun e : Bs × Val => e.1)) (A.map (fun e : Bs × Val => e.2)) (B.map (fun e : Bs × Val => e.1)) (B.map (fun e : Bs × Val => e.2)) (bothX (A.map (fun e : Bs × Val => e.1)) (B.map (fun e : Bs × Val => e.1)))) ?_ ?_ fun S => rj4 _ _ _ _ _ _ _ _ _ _ _ _ _ _ _ _ _ hm S
  · rw [jn_mk, jnL_one]
    show mapL (mergeG cmpX (jn (.mk k1 i1)) (entX (mapL A)) (entX (mapL B))) = _
    rw [zL3, zL3, map_doc hsm ra.srt rb.srt ra.all rb.all]
    unfold mapL mpV
    rw [List.map_map, List.map_map]
    congr 1
    · exact List.map_id _
    · exact List.map_congr_left fun k _ => by simp only [Function.comp, hlk, hlk2]
  · rw [map_ok ra.srt rb.srt (fun e he => (both_bot 16 _ hF (Nat.le_refl _) e.2 (hr1 _ (List.mem_map.2 ⟨e, he, rfl⟩)).1 (ha4.2 e he)).1) (fun e he => (both_bot 16 _ hF (Nat.le_refl _) e.2 (hr2 _ (List.mem_map.2 ⟨e, he, rfl⟩)).1 (hb4.2 e he)).2)]
    unfold mpO
    congr 2
    funext k
    rw [hlk, hlk2]
theorem rj_cause {t : Sch} (ih : ∀ x y : Val, okV x → okV y → isVF t x = true → isVF t y = true → RJ t x y) {A B : List (List Tk × Val)} (ra : R8 (LV t) A) (rb : R8 (LV t) B) (oa : okV (cauL A)) (ob : okV (cauL B)) (va : isVF (.mk 8 [t]) (cauL A) = true) (vb : isVF (.mk 8 [t]) (cauL B) = true) : RJ (.mk 8 [t]) (cauL A) (cauL B) := by
  obtain ⟨k1, i1⟩ := t
  have ha4 := isM8 va
  have hb4 := isM8 vb
  have pa := okV_mk.1 (show okV (.mk 0 0 [] (A.map (·.1)) (A.map (·.2))) from oa)
  have pb := okV_mk.1 (show okV (.mk 0 0 [] (B.map (·.1)) (B.map (·.2))) from ob)
  have hZ : (A.map (·.1) ++ B.map (·.1)).zip (A.map (·.2) ++ B.map (·.2)) = A ++ B := by
    rw [← List.map_append, ← List.map_append]; exact zip_ml _
  have hlen : (A.map (·.1) ++ B.map (·.1)).length = (A ++ B).length := by simp
  have hclk : ∀ c ∈ A.map (·.1) ++ B.map (·.1), ClkOk c := fun c hc => by
    rcases zS1.1 hc with h | h
    · obtain ⟨e, he, rfl⟩ := List.mem_map.1 h; exact ra.key e he
    · obtain ⟨e, he, rfl⟩ := List.mem_map.1 h; exact rb.key e he
  have hcmp : ∀ c ∈ A.map (·.1) ++ B.map (·.1), ∀ o ∈ A.map (·.1) ++ B.map (·.1), rcmpF c o = cmpF c o := fun c hc o ho => (cmp_eq (hclk c hc).1 (hclk o ho).1 (hclk c hc).2.1 (hclk o ho).2.1).symm
  have hv : ∀ e ∈ A ++ B, okV e.2 ∧ isVF (.mk k1 i1) e.2 = true := fun e he => by
    rcases zS1.1 he with h | h
    · exact ⟨pa.2.2.2 _ (List.mem_map.2 ⟨e, h, rfl⟩), ha4.2 e h⟩
    · exact ⟨pb.2.2.2 _ (List.mem_map.2 ⟨e, h, rfl⟩), hb4.2 e h⟩
  have hright : ∀ i e v, ((A.map (·.1) ++ B.map (·.1)).zip (A.map (·.2) ++ B.map (·.2)))[i]? = some (e, v) → (okV v ∧ isVF (.mk k1 i1) v = true) ∧ ∀ u, look (stL (.mk k1 i1) (A.map (·.1) ++ B.map (·.1)) ((A.map (·.1) ++ B.map (·.1)).zip (A.map (·.2) ++ B.map (·.2))) i) e = some u → okV u ∧ isVF (.mk k1 i1) u = true := fun i e v h => by
    rw [hZ] at h ⊢
    refine ⟨hv _ (zF0 h), fun u hu => ?_⟩
    unfold stL at hu
    rcases Nat.lt_or_ge i A.length with hi | hi
    · rw [List.take_append_of_le_length (by omega)] at hu
      rw [fold_look _ _ (ra.srt.sublist (List.take_sublist _ _))] at hu
      split at hu
      · cases hu
      · have hl : look (A.take i) e = some u := by
          cases hq : look (A.take i) e with
          | none => rw [hq] at hu; cases hu
          | some q => rw [hq] at hu; exact hu
        exact hv _ (zS1.2 (.inl ((List.take_sublist _ _).mem (zG6 hl))))
    · obtain ⟨j, rfl⟩ : ∃ j, i = A.length + j := ⟨i - A.length, by omega⟩
      rw [List.take_length_add_append, List.foldl_append, fold_look _ _ (rb.srt.sublist (List.take_sublist _ _)), fold_look _ _ ra.srt] at hu
      rw [List.getElem?_append_right (by omega), Nat.add_sub_cancel_left] at h
      have hno : look (B.take j) e = none := zE3 fun ⟨y, hy, hy2⟩ => by
        obtain ⟨m, hm⟩ := List.getElem?_of_mem hy
        rw [List.getElem?_take] at hm
        split at hm
        · rename_i hmj
          have hj := (zI.1 h)
          have hm2 := (zI.1 hm)
          have := List.pairwise_iff_getElem.1 rb.srt m j hm2.1 hj.1 hmj
          rw [hm2.2, hj.2] at this
          exact ordT.irr e (by rw [← hy2] at this ⊢; exact this)
        · cases hm
      split at hu
      · cases hu
      · rw [hno, comb_none] at hu
        have hl : look A e = some u := by
          cases hq : look A e with
          | none => rw [hq] at hu; cases hu
          | some q => rw [hq] at hu; exact hu
        exact hv _ (zS1.2 (.inl (zG6 hl)))
  have hm := fun S => rCauses_spec k1 i1 (A.map (·.1)) (B.map (·.1)) (A.map (·.2)) (B.map (·.2)) (by simp) (by simp) (by rw [zC]; exact ha4.1) (by rw [zC]; exact hb4.1) hcmp hright (fun x y ox oy vx vy => ih x y ox oy vx vy) S
  rw [hZ, hlen] at hm
  have hst : stL (.mk k1 i1) (A.map (·.1) ++ B.map (·.1)) (A ++ B) (A ++ B).length = topG byTicksF blwC (jn (.mk k1 i1)) A B := by
    unfold stL
    rw [List.take_length, cause_doc ra.srt rb.srt]
  rw [hst] at hm
  refine rj_of (r := cauL (topG byTicksF blwC (jn (.mk k1 i1)) A B)) (o := okL (.mk k1 i1) (A.map (fun e : List Tk × Val => e.1) ++ B.map (fun e : List Tk × Val => e.1)) (A ++ B) (A ++ B).length && decide ((topG byTicksF blwC (jn (.mk k1 i1)) A B).length ≤ 40)) ?_ ?_ fun S => rj8 _ _ _ _ _ _ _ _ _ _ _ _ _ _ _ _ _ hm S
  · rw [jn_mk, jnL_one]
    show cauL (topG byTicksF blwC (jn (.mk k1 i1)) (entC (cauL A)) (entC (cauL B))) = _
    rw [zD4, zD4]
  · rw [cause_ok ra.srt rb.srt ra.len rb.len]
    unfold okL
    rw [List.take_length, okC_doc ra.srt rb.srt]
theorem okJ_some {s : Sch} {a b v : Val} (h : bothF s a b = some v) : okJ s a b = true := by unfold okJ; rw [h]; rfl
theorem len7 {ins : List Sch} {c : List Tk} (o : okV (clkW c)) (h : isVF (.mk 7 ins) (clkW c) = true) : c.length ≤ 40 := by
  by_cases he : c = []
  · subst he; simp
  · rw [zY4 he] at o h
    rw [zO1 7] at h
    simp only [Bool.and_eq_true] at h
    have hq : 0 < c.length ∧ isClockF c = true := by simpa using h.2
    exact ((isClock_iff ((okV_mk.1 o).2.2.1 c (by simp))).1 hq.2).2
theorem large7 {c : List Tk} (h : c.length ≤ 40) : largeF (clkW c) = false := by
  by_cases he : c = []
  · subst he; rfl
  · rw [zY4 he, zJ5]; simp; omega
theorem large7' {c : List Tk} (h : ¬ c.length ≤ 40) : largeF (clkW c) = true := by
  rw [zY4 (by intro e; subst e; simp at h), zJ5]; simp; omega
theorem rjoin_spec : ∀ (d : Nat) (s : Sch), isF d s = true → d ≤ 16 → ∀ a b : Val, okV a → okV b → isVF s a = true → isVF s b = true → RJ s a b
  | 0, s, h => by simp [isF] at h
  | d + 1, .mk k ins, h => by
    have h0 := h
    rw [isF] at h
    simp only [Bool.and_eq_true, List.all_eq_true, beq_iff_eq] at h
    intro hd a b oa ob va vb
    have la := lv_of (d + 1) _ h0 hd a oa va
    have lb := lv_of (d + 1) _ h0 hd b ob vb
    rw [LV_mk] at la lb
    rcases k8_of h.1 with rfl | rfl | rfl | rfl | rfl | rfl | rfl | rfl
    · obtain ⟨n, rfl, hn⟩ := la
      obtain ⟨m, rfl, hm⟩ := lb
      exact rj_of (by rw [jn_mk]; rfl) (by unfold okJ; rw [zK2]; rfl) (rj1 n m ins)
    · obtain ⟨n, rfl, hn⟩ := la
      obtain ⟨m, rfl, hm⟩ := lb
      exact rj_of (by rw [jn_mk]; rfl) (by unfold okJ; rw [zK2]; rfl) (rj2 n m ins)
    · have := no_ins h.1 (by decide)
      subst this
      obtain ⟨s1, rfl, u1, _⟩ := la
      obtain ⟨s2, rfl, u2, _⟩ := lb
      have n1 := (row_iff.1 (by rw [← is_set]; exact va : isRowF s1 = true)).1
      have n2 := (row_iff.1 (by rw [← is_set]; exact vb : isRowF s2 = true)).1
      refine rj_of (by rw [jn_mk]; rfl) ?_ (rj3 s1 s2 u1 u2 (by omega) [])
      unfold okJ
      rw [both_set]
      by_cases hq : (bothX s1 s2).length ≤ 40
      · rw [if_neg (by omega), decide_eq_true hq]; rfl
      · rw [if_pos (by omega), decide_eq_false hq]; rfl
    · obtain ⟨t, rfl⟩ := zT5 h.1 (by decide)
      have ht := h.2 t (by simp)
      have ht16 : isF 16 t = true := isF_le (by omega : d ≤ 16) ht
      rw [LVL_one, zT4] at la lb
      obtain ⟨A, rfl, ra⟩ := la
      obtain ⟨B, rfl, rb⟩ := lb
      exact rj_map ht16 (fun x y ox oy vx vy => rjoin_spec d t ht (by omega) x y ox oy vx vy) ra rb oa ob va vb
    · obtain ⟨⟨k1, i1⟩, ⟨k2, i2⟩, rfl⟩ := two_of h.1
      rw [show LVL [Sch.mk k1 i1, Sch.mk k2 i2] = [LV (.mk k1 i1), LV (.mk k2 i2)] by simp [LVL]] at la lb
      obtain ⟨⟨xn, xm, xs, xc, xw⟩, ⟨un, um, us, uc, uw⟩, rfl, hx, hu⟩ := la
      obtain ⟨⟨yn, ym, ys, yc, yw⟩, ⟨zn, zm, zs, zc, zw⟩, rfl, hy, hz⟩ := lb
      rw [is_pair] at va vb
      simp only [Bool.and_eq_true] at va vb
      have pa := okV_mk.1 oa
      have pb := okV_mk.1 ob
      have j1 := rjoin_spec d _ (h.2 (.mk k1 i1) (by simp)) (by omega) _ _ (pa.2.2.2 _ (by simp)) (pb.2.2.2 _ (by simp)) va.1 vb.1
      have j2 := rjoin_spec d _ (h.2 (.mk k2 i2) (by simp)) (by omega) _ _ (pa.2.2.2 _ (by simp)) (pb.2.2.2 _ (by simp)) va.2 vb.2
      obtain ⟨⟨pn, pm, ps, pc, pw⟩, e1⟩ : ∃ v, jn (.mk k1 i1) (.mk xn xm xs xc xw) (.mk yn ym ys yc yw) = v := ⟨_, rfl⟩
      obtain ⟨⟨qn, qm, qs, qc, qw⟩, e2⟩ : ∃ v, jn (.mk k2 i2) (.mk un um us uc uw) (.mk zn zm zs zc zw) = v := ⟨_, rfl⟩
      unfold RJ at j1 j2
      rw [e1] at j1
      rw [e2] at j2
      refine rj_of (r := .mk 0 0 [] [] [.mk pn pm ps pc pw, .mk qn qm qs qc qw]) ?_ ?_ (rj5 k1 k2 i1 i2 xn xm xs xc xw un um us uc uw yn ym ys yc yw zn zm zs zc zw pn pm ps pc pw qn qm qs qc qw _ _ j1 j2)
      · rw [jn_mk, ← e1, ← e2]
        simp [jnB, jnL, Val.vv]
      · unfold okJ
        rw [zK2]
        show (capF (pairF2 (bothL [.mk k1 i1, .mk k2 i2]) _ _)).isSome = _
        rw [bothL_eq]
        simp only [pairF2, Val.vv, List.map_cons, List.map_nil]
        cases h1 : bothF (.mk k1 i1) (.mk xn xm xs xc xw) (.mk yn ym ys yc yw) with
        | none => simp [goP, h1, capF]
        | some v1 =>
          cases h2 : bothF (.mk k2 i2) (.mk un um us uc uw) (.mk zn zm zs zc zw) with
          | none => simp [goP, h1, h2, capF]
          | some v2 =>
            simp only [goP, h1, h2, Option.map_some]
            rw [capF_f (by rw [zJ5]; simp)]; rfl
    · have := no_ins h.1 (by decide)
      subst this
      have ha : isLV a = true := la.1
      have hb : isLV b = true := lb.1
      have hb6 := both_lv a b ha hb
      obtain ⟨n1, m1, s1, c1, w1⟩ := a
      obtain ⟨n2, m2, s2, c2, w2⟩ := b
      obtain ⟨⟨n3, m3, s3, c3, w3⟩, hz⟩ : ∃ v, laterF (.mk n1 m1 s1 c1 w1) (.mk n2 m2 s2 c2 w2) = v := ⟨_, rfl⟩
      exact rj_of (by rw [jn_mk]; exact hz) (okJ_some hb6) (rj6 [] n1 m1 s1 c1 w1 n2 m2 s2 c2 w2 n3 m3 s3 c3 w3 hz)
    · obtain ⟨c, rfl, hc⟩ := la
      obtain ⟨e, rfl, he⟩ := lb
      have hlc : c.length ≤ 40 := len7 oa va
      have hle : e.length ≤ 40 := len7 ob vb
      have hje : joinF c e = rjoinF c e := join_eq hc.1 he.1 hc.2.1 he.2.1
      have hval : jn (.mk 7 ins) (clkW c) (clkW e) = clkV (rjoinF c e) := by
        rw [jn_mk, ← hje]
        show clocksF (clkW c) (clkW e) = _
        rw [zF3]
        rfl
      have hok : okJ (.mk 7 ins) (clkW c) (clkW e) = decide ((rjoinF c e).length ≤ 40) := by
        unfold okJ
        rw [zK2, show bothB 7 (bothL ins) (clkW c) (clkW e) = some (clkW (joinF c e)) by rw [← zF3]; rfl, hje]
        by_cases hq : (rjoinF c e).length ≤ 40
        · rw [decide_eq_true hq, capF_f (large7 hq)]; rfl
        · rw [decide_eq_false hq]
          unfold capF
          rw [Option.bind_some, large7' hq]
          rfl
      obtain ⟨⟨n3, m3, s3, c3, w3⟩, hz⟩ : ∃ v, clkV (rjoinF c e) = v := ⟨_, rfl⟩
      rw [hz] at hval
      refine rj_of hval hok ?_
      by_cases h1 : c = []
      · subst h1
        by_cases h2 : e = []
        · subst h2; exact rj7d [] [] (by simp) ins n3 m3 s3 c3 w3 hz
        · rw [zY4 h2]; exact rj7c [] e (by simp; omega) ins n3 m3 s3 c3 w3 hz
      · by_cases h2 : e = []
        · subst h2; rw [zY4 h1]; exact rj7b c [] (by simp; omega) ins n3 m3 s3 c3 w3 hz
        · rw [zY4 h1, zY4 h2]; exact rj7a c e (by omega) ins n3 m3 s3 c3 w3 hz
    · obtain ⟨t, rfl⟩ := zT5 h.1 (by decide)
      have ht := h.2 t (by simp)
      rw [LVL_one] at la lb
      obtain ⟨A, rfl, ra⟩ := la
      obtain ⟨B, rfl, rb⟩ := lb
      exact rj_cause (fun x y ox oy vx vy => rjoin_spec d t ht (by omega) x y ox oy vx vy) ra rb oa ob va vb
def encJI (o : Except Int Val) : MV := .tup [match o with | .error _ => encV noV | .ok v => encV v, match o with | .error n => .int .i64 n | .ok _ => .int .i64 0]
def encLI (o : Except Int Bool) : MV := .tup [match o with | .error _ => .bool false | .ok v => .bool v, match o with | .error n => .int .i64 n | .ok _ => .int .i64 0]
theorem rIs_at {s : Sch} {x : Val} {b : Bool} (h : (isF 16 s && isVF s x) = b) (hx : okV x) (S : MS) : MCalls Tryz.prog 23 [encS s, encV x] S fun v σ' => v = .bool b ∧ σ' = S := h ▸ rValIs_spec s x hx S
theorem join_four (s : Sch) (a b : Val) (oa : okV a) (ob : okV b) :
  ((isF 16 s && isVF s a) = true ∧ (isF 16 s && isVF s b) = true ∧ RJ s a b ∧ okJ s a b = true ∧ joinVF s a b = .ok (jn s a b)) ∨ ((isF 16 s && isVF s a) = true ∧ (isF 16 s && isVF s b) = true ∧ RJ s a b ∧ okJ s a b = false ∧ joinVF s a b = .error 13) ∨
  ((isF 16 s && isVF s a) = false ∧ joinVF s a b = .error 14) ∨ ((isF 16 s && isVF s a) = true ∧ (isF 16 s && isVF s b) = false ∧ joinVF s a b = .error 14) := by
 by_cases ha : (isF 16 s && isVF s a) = true
 ·by_cases hb : (isF 16 s && isVF s b) = true
  ·have ha' := ha
   have hb' := hb
   simp only [Bool.and_eq_true] at ha hb
   have hr := rjoin_spec 16 s ha.1 (Nat.le_refl _) a b oa ob ha.2 hb.2
   cases hj : bothF s a b with
   | some v =>
    have hv := both_jn 16 s ha.1 a b v (lv_of 16 s ha.1 (Nat.le_refl _) a oa ha.2) (lv_of 16 s ha.1 (Nat.le_refl _) b ob hb.2) hj
    subst hv
    exact .inl ⟨ha', hb', hr, okJ_some hj, join_ok_of ha.1 ha.2 hb.2 hj⟩
   | none =>
    refine .inr (.inl ⟨ha', hb', hr, by unfold okJ; rw [hj]; rfl, ?_⟩)
    unfold joinVF
    rw [if_pos ⟨ha', hb'⟩, hj]
  ·have hb : (isF 16 s && isVF s b) = false := by simpa using hb
   exact .inr (.inr (.inr ⟨ha, hb, join_err fun h => by rw [hb] at h; exact absurd h.2 (by decide)⟩))
 ·have ha : (isF 16 s && isVF s a) = false := by simpa using ha
  exact .inr (.inr (.inl ⟨ha, join_err fun h => by rw [ha] at h; exact absurd h.1 (by decide)⟩))
theorem rJoin_spec (s : Sch) (a b : Val) (oa : okV a) (ob : okV b) (S : MS) : MCalls Tryz.prog 8 [encS s, encV a, encV b] S fun v σ' => v = encJI (joinVF s a b) ∧ σ' = S := by
 obtain ⟨k, ins⟩ := s
 obtain ⟨n1, m1, s1, c1, w1⟩ := a
 obtain ⟨n2, m2, s2, c2, w2⟩ := b
 refine zU Tryz.func8 rfl Tryz.ntmps8 (zA rfl) ?_
 refine zB <| qR rfl <| qB rfl rfl rfl rfl rfl <| qB rfl rfl rfl rfl rfl <| qB rfl rfl rfl rfl rfl <| qO rfl <| zN0 rfl zm30 rfl rfl <| qA rfl rfl rfl <| qN <| zB <| zB ?_
 rcases join_four (.mk k ins) (.mk n1 m1 s1 c1 w1) (.mk n2 m2 s2 c2 w2) oa ob with ⟨ha, hb, hr, ho, hj⟩ | ⟨ha, hb, hr, ho, hj⟩ | ⟨ha, hj⟩ | ⟨ha, hb, hj⟩
 ·
  obtain ⟨⟨n3, m3, s3, c3, w3⟩, ez⟩ : ∃ v, jn (.mk k ins) (.mk n1 m1 s1 c1 w1) (.mk n2 m2 s2 c2 w2) = v := ⟨_, rfl⟩
  have hjn := hr
  unfold RJ at hjn
  rw [ez, ho] at hjn
  rw [ez] at hj
  refine qR rfl <| qL rfl rfl rfl rfl ta24 rfl <| qL rfl rfl rfl rfl ta30 rfl ?_
  refine qX rfl rfl rfl rfl co23 (rIs_at ha oa _) ?_
  refine qO rfl <| zG1 rfl rfl <| qM rfl rfl rfl <| qL rfl rfl rfl rfl ta24 rfl <| qL rfl rfl rfl rfl ta30 rfl ?_
  refine qX rfl rfl rfl rfl co23 (rIs_at hb ob _) ?_
  refine qO rfl <| zG1 rfl rfl <| qP rfl rfl rfl rfl <| qN <| zL rfl (rfl) <| zA0 <| zB <| qR rfl <| qL rfl rfl rfl rfl ta24 rfl <| qL rfl rfl rfl rfl ta30 rfl <| qL rfl rfl rfl rfl ta30 rfl ?_
  refine qX rfl rfl rfl rfl co32 (hjn _) ?_
  refine qM rfl rfl rfl <| qO rfl <| zE0 rfl rfl rfl <| qO rfl <| zE0 rfl rfl rfl <| qO rfl <| zN0 rfl zm30 rfl rfl <| qO rfl <| zH0 rfl rfl rfl rfl sz30 rfl rfl (zA rfl) rfl <| qA rfl rfl rfl <| qN <| zB <| zB <| qR rfl <| qM rfl rfl rfl <| qO rfl <| zG1 rfl rfl <| qN <| zL rfl (rfl) <| zA0 <| zB <| qR rfl <| qL rfl rfl rfl rfl ta30 rfl <| qO rfl <| zH0 rfl rfl rfl rfl sz30 rfl rfl (zA rfl) rfl <| qA rfl rfl rfl ?_
  refine qN <| zK ?_
  exact zZ0 (.inr rfl) Tryz.results8 rfl rfl ta30 rfl (.refl _) (zJ1 _ (.mk n3 m3 s3 c3 w3)) rfl (.refl _) (.int _ _) ⟨by rw [hj]; rfl, rfl⟩
 ·
  obtain ⟨⟨n3, m3, s3, c3, w3⟩, ez⟩ : ∃ v, jn (.mk k ins) (.mk n1 m1 s1 c1 w1) (.mk n2 m2 s2 c2 w2) = v := ⟨_, rfl⟩
  have hjn := hr
  unfold RJ at hjn
  rw [ez, ho] at hjn
  refine qR rfl <| qL rfl rfl rfl rfl ta24 rfl <| qL rfl rfl rfl rfl ta30 rfl ?_
  refine qX rfl rfl rfl rfl co23 (rIs_at ha oa _) ?_
  refine qO rfl <| zG1 rfl rfl <| qM rfl rfl rfl <| qL rfl rfl rfl rfl ta24 rfl <| qL rfl rfl rfl rfl ta30 rfl ?_
  refine qX rfl rfl rfl rfl co23 (rIs_at hb ob _) ?_
  refine qO rfl <| zG1 rfl rfl <| qP rfl rfl rfl rfl <| qN <| zL rfl (rfl) <| zA0 <| zB <| qR rfl <| qL rfl rfl rfl rfl ta24 rfl <| qL rfl rfl rfl rfl ta30 rfl <| qL rfl rfl rfl rfl ta30 rfl ?_
  refine qX rfl rfl rfl rfl co32 (hjn _) ?_
  refine qM rfl rfl rfl <| qO rfl <| zE0 rfl rfl rfl <| qO rfl <| zE0 rfl rfl rfl <| qO rfl <| zN0 rfl zm30 rfl rfl <| qO rfl <| zH0 rfl rfl rfl rfl sz30 rfl rfl (zA rfl) rfl <| qA rfl rfl rfl <| qN <| zB <| zB <| qR rfl <| qM rfl rfl rfl <| qO rfl <| zG1 rfl rfl <| qN <| zW rfl (rfl) <| zB <| qR rfl <| qO rfl <| zV2 (y := encV noV) (zW1 rfl zS0 zm30 .nil (by kernel_rfl) ⟨rfl, rfl⟩) (.agg (.cons (.refl _) (.cons (.refl _) (.cons (.nil 1) (.cons (.nil 1) (.cons (.nil 5) .nil)))))) ?_
  refine qO rfl <| zH0 rfl rfl rfl rfl sz30 rfl rfl (zA rfl) rfl <| qA rfl rfl rfl <| qN <| zK ?_
  exact zZ0 (.inr rfl) Tryz.results8 rfl rfl ta30 rfl (.refl _) (zJ1 _ noV) rfl (.refl _) (.int _ _) ⟨by rw [hj]; rfl, rfl⟩
 ·
  refine qR rfl <| qL rfl rfl rfl rfl ta24 rfl <| qL rfl rfl rfl rfl ta30 rfl ?_
  refine qX rfl rfl rfl rfl co23 (rIs_at ha oa _) ?_
  refine qO rfl <| zG1 rfl rfl <| qM rfl rfl rfl <| qT rfl rfl rfl rfl <| qP rfl rfl rfl rfl <| qN <| zW rfl (rfl) <| zB <| qR rfl <| qO rfl <| zV2 (y := encV noV) (zW1 rfl zS0 zm30 .nil (by kernel_rfl) ⟨rfl, rfl⟩) (.agg (.cons (.refl _) (.cons (.refl _) (.cons (.nil 1) (.cons (.nil 1) (.cons (.nil 5) .nil)))))) ?_
  refine qO rfl <| zH0 rfl rfl rfl rfl sz30 rfl rfl (zA rfl) rfl <| qA rfl rfl rfl <| qN <| zK ?_
  exact zZ0 (.inr rfl) Tryz.results8 rfl rfl ta30 rfl (.refl _) (zJ1 _ noV) rfl (.refl _) (.int _ _) ⟨by rw [hj]; rfl, rfl⟩
 ·
  refine qR rfl <| qL rfl rfl rfl rfl ta24 rfl <| qL rfl rfl rfl rfl ta30 rfl ?_
  refine qX rfl rfl rfl rfl co23 (rIs_at ha oa _) ?_
  refine qO rfl <| zG1 rfl rfl <| qM rfl rfl rfl <| qL rfl rfl rfl rfl ta24 rfl <| qL rfl rfl rfl rfl ta30 rfl ?_
  refine qX rfl rfl rfl rfl co23 (rIs_at hb ob _) ?_
  refine qO rfl <| zG1 rfl rfl <| qP rfl rfl rfl rfl <| qN <| zW rfl (rfl) <| zB <| qR rfl <| qO rfl <| zV2 (y := encV noV) (zW1 rfl zS0 zm30 .nil (by kernel_rfl) ⟨rfl, rfl⟩) (.agg (.cons (.refl _) (.cons (.refl _) (.cons (.nil 1) (.cons (.nil 1) (.cons (.nil 5) .nil)))))) ?_
  refine qO rfl <| zH0 rfl rfl rfl rfl sz30 rfl rfl (zA rfl) rfl <| qA rfl rfl rfl <| qN <| zK ?_
  exact zZ0 (.inr rfl) Tryz.results8 rfl rfl ta30 rfl (.refl _) (zJ1 _ noV) rfl (.refl _) (.int _ _) ⟨by rw [hj]; rfl, rfl⟩
theorem rJoin_at {s : Sch} {a b : Val} {r : Except Int Val} (h : joinVF s a b = r) (oa : okV a) (ob : okV b) (S : MS) : MCalls Tryz.prog 8 [encS s, encV a, encV b] S fun v σ' => v = encJI r ∧ σ' = S := h ▸ rJoin_spec s a b oa ob S
theorem rLeq_spec (s : Sch) (a b : Val) (oa : okV a) (ob : okV b) (S : MS) : MCalls Tryz.prog 15 [encS s, encV a, encV b] S fun v σ' => v = encLI (leqVF s a b) ∧ σ' = S := by
 obtain ⟨k, ins⟩ := s
 obtain ⟨n1, m1, s1, c1, w1⟩ := a
 obtain ⟨n2, m2, s2, c2, w2⟩ := b
 refine zU Tryz.func15 rfl Tryz.ntmps15 (zA rfl) ?_
 refine zB <| qR rfl <| qB rfl rfl rfl rfl rfl <| qB rfl rfl rfl rfl rfl <| qB rfl rfl rfl rfl rfl <| qA rfl rfl rfl <| qA rfl rfl rfl <| qN <| zB ?_
 rcases joinR (.mk k ins) (.mk n1 m1 s1 c1 w1) (.mk n2 m2 s2 c2 w2) with ⟨n3, m3, s3, c3, w3, hj⟩ | hj | hj <;> have hof := rJoin_at hj oa ob
 ·
  refine qR rfl <| qL rfl rfl rfl rfl ta24 rfl <| qL rfl rfl rfl rfl ta30 rfl <| qL rfl rfl rfl rfl ta30 rfl ?_
  refine qX rfl rfl rfl rfl co8 (hof _) ?_
  refine qM rfl rfl rfl <| qO rfl <| zE0 rfl rfl rfl <| qO rfl <| zE0 rfl rfl rfl <| qO rfl <| zN0 rfl zm30 rfl rfl <| qO rfl <| zH0 rfl rfl rfl rfl sz30 rfl rfl (zA rfl) rfl <| qA rfl rfl rfl <| qN <| zB <| zB <| qR rfl <| qM rfl rfl rfl <| qC rfl rfl rfl rfl ((show _ = some false from rfl)) <| qN <| zL rfl (rfl) <| zA0 <| zB <| qR rfl <| qM rfl rfl rfl <| qC rfl rfl rfl rfl ((show _ = some true from rfl)) <| qM rfl rfl rfl ?_
  refine qL rfl rfl rfl rfl ta30 rfl <| qL rfl rfl rfl rfl ta30 rfl ?_
  refine qX rfl rfl rfl rfl co12 (rSame_spec (.mk n3 m3 s3 c3 w3) (.mk n2 m2 s2 c2 w2) _) ?_
  refine qP rfl rfl rfl rfl <| qA rfl rfl rfl <| qA rfl rfl rfl <| qN <| zK ?_
  exact zH4 (.inr rfl) Tryz.results15 rfl rfl (.refl _) (.refl _) (.bool _) (.int _ _) ⟨by unfold leqVF; rw [hj]; rfl, rfl⟩
 ·
  refine qR rfl <| qL rfl rfl rfl rfl ta24 rfl <| qL rfl rfl rfl rfl ta30 rfl <| qL rfl rfl rfl rfl ta30 rfl ?_
  refine qX rfl rfl rfl rfl co8 (hof _) ?_
  refine qM rfl rfl rfl <| qO rfl <| zE0 rfl rfl rfl <| qO rfl <| zE0 rfl rfl rfl <| qO rfl <| zN0 rfl zm30 rfl rfl <| qO rfl <| zH0 rfl rfl rfl rfl sz30 rfl rfl (zA rfl) rfl <| qA rfl rfl rfl <| qN <| zB <| zB <| qR rfl <| qM rfl rfl rfl <| qC rfl rfl rfl rfl ((show _ = some false from rfl)) <| qN <| zL rfl (rfl) <| zA0 <| zB <| qR rfl <| qM rfl rfl rfl <| qC rfl rfl rfl rfl ((show _ = some false from rfl)) <| qM rfl rfl rfl ?_
  refine qS rfl <| qS rfl <| qS rfl <| qP rfl rfl rfl rfl <| qA rfl rfl rfl <| qA rfl rfl rfl <| qN <| zK ?_
  exact zH4 (.inr rfl) Tryz.results15 rfl rfl (.refl _) (.refl _) (.bool _) (.int _ _) ⟨by unfold leqVF; rw [hj]; rfl, rfl⟩
 ·
  refine qR rfl <| qL rfl rfl rfl rfl ta24 rfl <| qL rfl rfl rfl rfl ta30 rfl <| qL rfl rfl rfl rfl ta30 rfl ?_
  refine qX rfl rfl rfl rfl co8 (hof _) ?_
  refine qM rfl rfl rfl <| qO rfl <| zE0 rfl rfl rfl <| qO rfl <| zE0 rfl rfl rfl <| qO rfl <| zN0 rfl zm30 rfl rfl <| qO rfl <| zH0 rfl rfl rfl rfl sz30 rfl rfl (zA rfl) rfl <| qA rfl rfl rfl <| qN <| zB <| zB <| qR rfl <| qM rfl rfl rfl <| qC rfl rfl rfl rfl ((show _ = some true from rfl)) <| qN <| zW rfl (rfl) <| zB <| qR rfl <| qA rfl rfl rfl <| qA rfl rfl rfl <| qN <| zK ?_
  exact zH4 (.inr rfl) Tryz.results15 rfl rfl (.refl _) (.refl _) (.bool _) (.int _ _) ⟨by unfold leqVF; rw [hj]; rfl, rfl⟩
end Go.Proofs.YtnfcnpdpfgcchaaGreatDoor
namespace Go.Proofs.YtnfcnpdpfgcchaaGreatDoor
open Go Go.MV Go.RowKit Go.Extern.Stop Go.Stop Go.Extern
abbrev hndE (t : Nat) : Value := .agg #[.pointer (some ⟨2, t, none⟩)]
abbrev rlV (t : Nat) (a : Addr) (f : Int) : Value := .agg #[.pointer (some ⟨2, t, none⟩), .pointer (some a), .int .u64 f]
theorem as_v1 (t : Addr) (w : World) : (ReflectliteValue.unpack (.iface 71 (.pointer (some t)))).run Tryz.prog w
    = .ok (rlV 71 ⟨w.heap.size, 0, none⟩ 150) (w.alloc (.cells #[.pointer (some t)] 71)) := by kernel_rfl
theorem as_type (a : Addr) (w : World) : (ReflectliteValue.methodAny (ReflectliteValue.valueError "reflectlite.Value.Type" 0) (fun t _ _ _ => ReflectliteType.toType t) #[rlV 71 a 150]).run Tryz.prog w
    = .ok (.iface 105 (hndE 71)) w := by kernel_rfl
theorem as_mKind (h : Value) (w : World) : (Go.method 312 105 (.agg #[h]) "Kind").run Tryz.prog w = .ok (166, h) w := by kernel_rfl
theorem as_kP (w : World) : ((ReflectliteType.abiMethod fun t => (fun a : Nat => Value.int IntKind.u8 (a : Int)) <$> Rtype.kind t) #[.pointer (some ⟨2, 71, none⟩)]).run Tryz.prog w = .ok (.int .u8 22) w := by kernel_rfl
theorem as_kE (w : World) : ((ReflectliteType.abiMethod fun t => (fun a : Nat => Value.int IntKind.u8 (a : Int)) <$> Rtype.kind t) #[.pointer (some ⟨2, 62, none⟩)]).run Tryz.prog w = .ok (.int .u8 2) w := by kernel_rfl
theorem as_rlm (z : Sem Value) (f : TypeId → Addr → Nat → Nat → Sem Value) (v : Value) :
    ReflectliteValue.method z f #[v] = (do match ← ReflectliteValue.parts v with | none => z | some (t, a, fl) => f t a fl (fl % 32)) := rfl
theorem as_pP (a : Addr) (w : World) : (ReflectliteValue.parts (rlV 71 a 150)).run Tryz.prog w = .ok (some (71, a, 150)) w := by kernel_rfl
theorem as_isNil (a p : Addr) (W : World) (ha : W.cell? a = some (.pointer (some p))) :
    (ReflectliteValue.method (ReflectliteValue.valueError "reflectlite.Value.IsNil" 0) ReflectliteValue.isNil #[rlV 71 a 150]).run Tryz.prog W = .ok (.bool false) W := by
  rw [as_rlm]
  simp only [Sem.run_bind, as_pP, Result.andThen]
  simp [ReflectliteValue.isNil, loadVar, isAgg, underlying, Tryz.underlying71, ha, Result.andThen]
theorem as_mElem (h : Value) (w : World) : (Go.method 312 105 (.agg #[h]) "Elem").run Tryz.prog w = .ok (176, .agg #[h]) w := by kernel_rfl
theorem as_mImpl (h : Value) (w : World) : (Go.method 312 105 (.agg #[h]) "Implements").run Tryz.prog w = .ok (177, .agg #[h]) w := by kernel_rfl
theorem as_mAss (h : Value) (w : World) : (Go.method 312 105 (.agg #[h]) "AssignableTo").run Tryz.prog w = .ok (174, .agg #[h]) w := by kernel_rfl
theorem as_elemT (w : World) : (ReflectliteType.method ReflectliteType.elem #[hndE 71]).run Tryz.prog w = .ok (.iface 105 (hndE 62)) w := by kernel_rfl
theorem as_impl (w : World) : (ReflectliteType.relation "Implements" ReflectliteType.implements_ #[hndE 62, .iface 105 (hndE 33)]).run Tryz.prog w = .ok (.bool true) w := by kernel_rfl
theorem as_typeOf (v : Value) (w : World) : (ReflectliteType.typeOf #[.iface 62 v]).run Tryz.prog w = .ok (.iface 105 (hndE 62)) w := by kernel_rfl
theorem as_assign (w : World) : (ReflectliteType.relation "AssignableTo" ReflectliteType.assignableTo #[hndE 62, .iface 105 (hndE 62)]).run Tryz.prog w = .ok (.bool true) w := by kernel_rfl
theorem as_v2 (k : Int) (w : World) : (ReflectliteValue.unpack (.iface 62 (.int .i64 k))).run Tryz.prog w
    = .ok (rlV 62 ⟨w.heap.size, 0, none⟩ 130) (w.alloc (.cells #[.int .i64 k] 62)) := by kernel_rfl
theorem as_elemOf (w : World) : (Rtype.elem? 71).run Tryz.prog w = .ok (some 62) w := by kernel_rfl
theorem as_mk (p : Addr) (w : World) : (ReflectliteValue.mk 62 p ReflectliteValue.flagAddr).run Tryz.prog w = .ok (rlV 62 p 386) w := by kernel_rfl
theorem as_elemV (a p : Addr) (W : World) (ha : W.cell? a = some (.pointer (some p))) :
    (ReflectliteValue.method (ReflectliteValue.valueError "reflectlite.Value.Elem" 0) ReflectliteValue.elem #[rlV 71 a 150]).run Tryz.prog W = .ok (rlV 62 p 386) W := by
  rw [as_rlm]
  simp only [Sem.run_bind, as_pP, Result.andThen]
  simp [ReflectliteValue.elem, loadVar, isAgg, underlying, Tryz.underlying71, ha, Result.andThen, as_elemOf, as_mk]
theorem as_rls (v x : Value) : ReflectliteValue.set #[v, x] = (do
    let (some (dst, a, fl), some (src, b, _)) := (← ReflectliteValue.parts v, ← ReflectliteValue.parts x)
      | unsupported (.noEntry "extern/(internal/reflectlite.Value).Set.zeroValue")
    if fl / ReflectliteValue.flagAddr % 2 == 0 then unsupported (.noEntry "extern/(internal/reflectlite.Value).Set.unaddressable")
    let val ← loadVar src b
    if ← Rtype.directlyAssignable dst src then storeVar dst a val
    else if ← Rtype.implements dst src then
      if (← Rtype.kind src) == 20 then
        match val with
        | .nilIface => unsupported (.noEntry "extern/reflectlite: a nil value of one interface type handed on as a value of another")
        | _ => storeVar dst a val
      else storeVar dst a (.iface src val)
    else panicString ("reflectlite.Set: value of type " ++ (← Rtype.spelt src) ++ " is not assignable to type " ++ (← Rtype.spelt dst))
    pure (.tuple #[])) := rfl
theorem as_pA (a : Addr) (w : World) : (ReflectliteValue.parts (rlV 62 a 386)).run Tryz.prog w = .ok (some (62, a, 386)) w := by kernel_rfl
theorem as_pB (a : Addr) (w : World) : (ReflectliteValue.parts (rlV 62 a 130)).run Tryz.prog w = .ok (some (62, a, 130)) w := by kernel_rfl
theorem as_direct (w : World) : (Rtype.directlyAssignable 62 62).run Tryz.prog w = .ok true w := by kernel_rfl
theorem as_set (ta b : Addr) (k : Int) (old : Value) (W : World) (hb : W.cell? b = some (.int .i64 k)) (ht : W.cell? ta = some old) (hf : W.frozen? ta = false) :
    (ReflectliteValue.set #[rlV 62 ta 386, rlV 62 b 130]).run Tryz.prog W = .ok (.tuple #[]) (W.setCell ta (.int .i64 k)) := by
  rw [as_rls]
  simp only [Sem.run_bind, as_pA, as_pB, Result.andThen]
  simp [ReflectliteValue.flagAddr, loadVar, isAgg, underlying, zU1, hb, Result.andThen, as_direct, storeVar, Value.cells, storeCells, Addr.add]
  rw [run_store Tryz.prog W ta _ _ (by rfl)]
  simp [ht, hf]
abbrev asW (t : Addr) (k : Int) (w : World) : World := (((w.alloc (.cells #[.pointer (some t)] 71)).alloc (.cells #[.pointer (some ⟨2, 71, none⟩), .pointer (some ⟨w.heap.size, 0, none⟩), .int .u64 150] 90)).alloc (.cells #[.pointer (some ⟨2, 71, none⟩), .pointer (some ⟨w.heap.size, 0, none⟩), .int .u64 150] 90)).alloc (.cells #[.int .i64 k] 62)
abbrev hndErr : Value := .iface 105 (hndE 33)
theorem as_hit (k : Int) (t : Addr) (old : Value) (w : World) (hg : w.cell? ⟨0, 0, none⟩ = some hndErr) (ht0 : w.cell? t = some old) (hf0 : w.frozen? t = false) :
    Calls Tryz.prog 38 #[.iface 62 (.int .i64 k), .iface 71 (.pointer (some t))] w fun ev w' => ev = .returned (.bool true) ∧ w' = (asW t k w).setCell t (.int .i64 k) := by
  have h6 := @run_callFunc_extern Tryz.prog 67 _ (fun args => ReflectliteValue.unpack (args.getD 0 (.tuple #[]))) Tryz.func67 (by kernel_rfl) (by kernel_rfl) (by kernel_rfl) (by kernel_rfl)
  have h7 := @run_callFunc_extern Tryz.prog 68 _ (ReflectliteValue.methodAny (ReflectliteValue.valueError "reflectlite.Value.Type" 0) (fun t _ _ _ => ReflectliteType.toType t)) Tryz.func68 (by kernel_rfl) (by kernel_rfl) (by kernel_rfl) (by kernel_rfl)
  have h8 := @run_callFunc_extern Tryz.prog 69 _ (ReflectliteValue.method (ReflectliteValue.valueError "reflectlite.Value.IsNil" 0) ReflectliteValue.isNil) Tryz.func69 (by kernel_rfl) (by kernel_rfl) (by kernel_rfl) (by kernel_rfl)
  have h27 := @run_callFunc_extern Tryz.prog 166 _ (ReflectliteType.abiMethod fun t => do pure (.int .u8 (← Rtype.kind t))) Tryz.func166 (by kernel_rfl) (by kernel_rfl) (by kernel_rfl) (by kernel_rfl)
  have h37 := @run_callFunc_extern Tryz.prog 176 _ (ReflectliteType.method ReflectliteType.elem) Tryz.func176 (by kernel_rfl) (by kernel_rfl) (by kernel_rfl) (by kernel_rfl)
  have h38 := @run_callFunc_extern Tryz.prog 177 _ (ReflectliteType.relation "Implements" ReflectliteType.implements_) Tryz.func177 (by kernel_rfl) (by kernel_rfl) (by kernel_rfl) (by kernel_rfl)
  have h10 := @run_callFunc_extern Tryz.prog 47 _ ReflectliteType.typeOf Tryz.func47 (by kernel_rfl) (by kernel_rfl) (by kernel_rfl) (by kernel_rfl)
  have h35 := @run_callFunc_extern Tryz.prog 174 _ (ReflectliteType.relation "AssignableTo" ReflectliteType.assignableTo) Tryz.func174 (by kernel_rfl) (by kernel_rfl) (by kernel_rfl) (by kernel_rfl)
  have h11 := @run_callFunc_extern Tryz.prog 116 _ (ReflectliteValue.method (ReflectliteValue.valueError "reflectlite.Value.Elem" 0) ReflectliteValue.elem) Tryz.func116 (by kernel_rfl) (by kernel_rfl) (by kernel_rfl) (by kernel_rfl)
  have h12 := @run_callFunc_extern Tryz.prog 117 _ ReflectliteValue.set Tryz.func117 (by kernel_rfl) (by kernel_rfl) (by kernel_rfl) (by kernel_rfl)
  have tO := as_typeOf
  have mA := as_mAss
  have a25 := as_assign
  have v25 := as_v2
  have f6 := as_v1
  have f7 := as_type
  have mK := as_mKind
  have mE := as_mElem
  have mI := as_mImpl
  have k27 := as_kP
  have k25 := as_kE
  have e27 := as_elemT
  have i25 := as_impl
  have n8 := as_isNil ⟨w.heap.size, 0, none⟩ t ((w.alloc (.cells #[.pointer (some t)] 71)).alloc (.cells #[.pointer (some ⟨2, 71, none⟩), .pointer (some ⟨w.heap.size, 0, none⟩), .int .u64 150] 90)) (by simp)
  have hlt : 0 < w.heap.size := by
    rcases Nat.lt_or_ge 0 w.heap.size with h | h
    · exact h
    · simp [World.cell?, Array.getElem?_eq_none h] at hg
  have hg2 : ((w.alloc (.cells #[.pointer (some t)] 71)).alloc (.cells #[.pointer (some ⟨2, 71, none⟩), .pointer (some ⟨w.heap.size, 0, none⟩), .int .u64 150] 90)).cell? ⟨0, 0, none⟩ = some hndErr := by
    rw [World.cell?_alloc_lt _ _ ⟨0, 0, none⟩ (by simp <;> omega), World.cell?_alloc_lt _ _ ⟨0, 0, none⟩ hlt]; exact hg
  have htl : t.block < w.heap.size := by
    rcases Nat.lt_or_ge t.block w.heap.size with h | h
    · exact h
    · simp [World.cell?, Array.getElem?_eq_none h] at ht0
  have el := as_elemV ⟨w.heap.size, 0, none⟩ t (((w.alloc (.cells #[.pointer (some t)] 71)).alloc (.cells #[.pointer (some ⟨2, 71, none⟩), .pointer (some ⟨w.heap.size, 0, none⟩), .int .u64 150] 90)).alloc (.cells #[.pointer (some ⟨2, 71, none⟩), .pointer (some ⟨w.heap.size, 0, none⟩), .int .u64 150] 90)) (by rw [World.cell?_alloc_lt _ _ ⟨w.heap.size, 0, none⟩ (by simp; omega)]; simp)
  have st := as_set t ⟨w.heap.size + 1 + 1 + 1, 0, none⟩ k old (asW t k w)
    (by rw [World.cell?_alloc_at _ _ _ _ (by simp)]; rfl)
    (by rw [World.cell?_alloc_lt _ _ t (by simp; omega), World.cell?_alloc_lt _ _ t (by simp; omega), World.cell?_alloc_lt _ _ t (by simp; omega), World.cell?_alloc_lt _ _ t htl]; exact ht0)
    (by rw [World.frozen?_alloc_old _ _ t (by simp; omega), World.frozen?_alloc_old _ _ t (by simp; omega), World.frozen?_alloc_old _ _ t (by simp; omega), World.frozen?_alloc_old _ _ t (Nat.ne_of_lt htl)]; exact hf0)
  go_enter Tryz.func38, Tryz.ntmps38
  go_wp2
  refine wp_loop_rounds 1 ?_
  rw [rounds_succ]
  go_wp2
  go_ret
  exact ⟨rfl, rfl⟩
end Go.Proofs.YtnfcnpdpfgcchaaGreatDoor
namespace Go.MV
open Go Go.RowKit Go.ChangeShapes Go.WideShapes Go.Deep
section
def g0 (W : World) : Gh := { B := W.heap.size, w0 := W, st := fun b => match W.heap[b]? with | some (.cells c _ _) => c.size | _ => 0, bk := fun _ => none, lg := fun _ _ => none }
theorem rel0 (W : World) : Rel (g0 W) [] W := by
  refine ⟨.refl _ _, Nat.le_refl _, fun b hb => ?_, fun _ _ => rfl, fun _ _ _ => rfl, fun _ => none, ⟨fun id o h => (by simp at h), fun i j b h => (by cases h), fun id b h => (by cases h)⟩⟩
  show (match W.heap[b]? with | some (.cells c _ _) => c.size | _ => 0) = 0
  rw [Array.getElem?_eq_none hb]
theorem stab0 {W : World} {ad : Addr} {k : Nat} {v : Value} (h : W.cell? (ad.add k) = some v) (h1 : v.oneCell' = true) : Stab (g0 W) W ad k v := by
  refine ⟨?_, h, h1⟩
  have e := cell_spot h
  rw [e] at h
  show _ < (match W.heap[(ad.add k).block]? with | some (.cells c _ _) => c.size | _ => 0)
  unfold World.cell? at h
  split at h
  · rename_i c t f hc
    simp only [Option.isSome_none, Bool.false_eq_true, if_false] at h
    simp only at hc
    rw [hc]
    exact (Array.getElem?_eq_some_iff.1 h).1
  · cases h
def TyFs (T : TypeId → List MV → Prop) : List Field → List MV → Prop
  | [], l => l = []
  | f :: fs, l => ∃ a b, l = a ++ b ∧ T f.type a ∧ TyFs T fs b
def ElF (P : Program) (e : TypeId) (x : MV) : Prop := match P.underlying e with | some (.struct _) => x = .agg x.cells | _ => [x] = x.cells
def TyM (P : Program) : Nat → TypeId → List MV → Prop
  | 0, _, _ => False
  | n + 1, t, l =>
    match P.underlying t with
    | some (.int k) => ∃ v, l = [.int k v] ∧ (Lit.int k v).wf = true
    | some .bool => ∃ b, l = [.bool b]
    | some .string => ∃ s, l = [.str s] ∧ s.size ≤ maxLen
    | some (.slice e) => ∃ xs, l = [.lst none (P.cellsOf e) xs] ∧ ∀ x ∈ xs, x.cells.length = P.cellsOf e ∧ TyM P n e x.cells ∧ ElF P e x
    | some (.struct fs) => TyFs (TyM P n) fs.toList l
    | _ => False
def contig (P : Program) (size : Nat) : List Field → Nat → Bool
  | [], off => Nat.beq off size
  | f :: fs, off => Nat.beq f.offset off && contig P size fs (off + P.cellsOf f.type)
def okTypes (P : Program) (ts : List TypeId) : Bool :=
  ts.all fun t => match P.underlying t with
    | some (.int _) | some .bool | some .string => true
    | some (.slice e) => natMem e ts && (match P.underlying e with | some (.struct _) => true | _ => Nat.beq (P.cellsOf e) 1)
    | some (.struct fs) => fs.toList.all (fun f => natMem f.type ts) && contig P (P.cellsOf t) fs.toList 0
    | _ => false
theorem rds_of_fields {P : Program} {W : World} {T : TypeId → List MV → Prop} {cs : List Value} {size : Nat} (hlen : cs.length = size) : ∀ (fs : List Field) (off : Nat), contig P size fs off = true →
    (∀ f ∈ fs, ∃ l, Rds (g0 W) W l ((cs.drop f.offset).take (P.cellsOf f.type)) ∧ T f.type l ∧ l.length = P.cellsOf f.type ∧ ∀ y ∈ l, y.one = true) → ∃ l, Rds (g0 W) W l (cs.drop off) ∧ TyFs T fs l ∧ ∀ y ∈ l, y.one = true
  | [], off, hc, _ => by
    have := Nat.eq_of_beq_eq_true hc
    refine ⟨[], ?_, rfl, fun y hy => by cases hy⟩
    rw [List.drop_eq_nil_of_le (by omega)]
    exact .nil _ _
  | f :: fs, off, hc, h => by
    simp only [contig, Bool.and_eq_true] at hc
    have ho := Nat.eq_of_beq_eq_true hc.1
    obtain ⟨a, h1, h2, h3, h5⟩ := h f (zW0 ..)
    obtain ⟨b, k1, k2, k3⟩ := rds_of_fields hlen fs _ hc.2 (fun f' hf' => h f' (zT0 _ hf'))
    refine ⟨a ++ b, ?_, ⟨a, b, rfl, h2, k2⟩, fun y hy => (zS1.1 hy).elim (h5 y) (k3 y)⟩
    have e : cs.drop off = (cs.drop off).take (P.cellsOf f.type) ++ cs.drop (off + P.cellsOf f.type) := by
      rw [← List.drop_drop, List.take_append_drop]
    rw [e]
    rw [ho] at h1
    exact h1.append k1
theorem tyFs_mono {T T' : TypeId → List MV → Prop} (h : ∀ t l, T t l → T' t l) : ∀ (fs : List Field) (l : List MV), TyFs T fs l → TyFs T' fs l
  | [], l, hl => hl
  | f :: fs, l, ⟨a, b, e, h1, h2⟩ => ⟨a, b, e, h _ _ h1, tyFs_mono h fs b h2⟩
theorem tyM_succ {P : Program} : ∀ (n : Nat) (t : TypeId) (l : List MV), TyM P n t l → TyM P (n + 1) t l
  | 0, t, l, h => h.elim
  | n + 1, t, l, h => by
    unfold TyM at h ⊢
    split at h
    · rename_i k hu; exact h
    · rename_i hu; exact h
    · rename_i hu; exact h
    · rename_i e hu
      obtain ⟨xs, h1, h2⟩ := h
      exact ⟨xs, h1, fun x hx => ⟨(h2 x hx).1, tyM_succ n _ _ (h2 x hx).2.1, (h2 x hx).2.2⟩⟩
    · rename_i fs hu; exact tyFs_mono (tyM_succ n) _ _ h
    · exact h.elim
theorem tyM_le {P : Program} {n m : Nat} (h : n ≤ m) {t : TypeId} {l : List MV} (ht : TyM P n t l) : TyM P m t l := by
  obtain ⟨d, rfl⟩ := Nat.le.dest h
  induction d with
  | zero => exact ht
  | succ d ih => exact tyM_succ _ _ _ (ih (by omega))
section
variable {H : Type} {enc : TypeId × Value → H} {P : Program} {W : World} {base : Nat} {spare : Nat → Bool} {held : Bool}
theorem common_bound {α : Type} {p : Nat → α → Prop} (hm : ∀ n m a, n ≤ m → p n a → p m a) : ∀ (l : List α), (∀ a ∈ l, ∃ n, p n a) → ∃ n, ∀ a ∈ l, p n a
  | [], _ => ⟨0, fun a h => by cases h⟩
  | a :: l, h => by
    obtain ⟨n, hn⟩ := h a (zW0 ..)
    obtain ⟨m, hm'⟩ := common_bound hm l (fun b hb => h b (zT0 _ hb))
    refine ⟨max n m, fun b hb => ?_⟩
    rcases List.mem_cons.1 hb with rfl | hb
    · exact hm _ _ _ (by omega) hn
    · exact hm _ _ _ (by omega) (hm' b hb)
theorem reads_gen {ts : List TypeId} (hok : okTypes P ts = true) : ∀ (n : Nat) (x : DataW H × List MemPlace) (fuel : Nat) (t : TypeId) (cs : List Value), SizeOf.sizeOf x.1 ≤ n → t ∈ ts → DataW.trod enc P W base spare held fuel t cs = some x →
    ∃ (l : List MV) (m : Nat), Rds (g0 W) W l cs ∧ TyM P m t l ∧ ∀ y ∈ l, y.one = true := by
  intro n
  induction n using Nat.strongRecOn with
  | _ n ih =>
  intro x fuel t cs hx ht h
  have hot : (match P.underlying t with
    | some (.int _) | some .bool | some .string => true
    | some (.slice e) => natMem e ts && (match P.underlying e with | some (.struct _) => true | _ => Nat.beq (P.cellsOf e) 1)
    | some (.struct fs) => fs.toList.all (fun f => natMem f.type ts) && contig P (P.cellsOf t) fs.toList 0
    | _ => false) = true := by
    simp only [okTypes, List.all_eq_true] at hok
    exact hok t ht
  split at hot
  · rename_i k hu
    obtain ⟨v, rfl, rfl, hwf⟩ := DataW.trod_int hu h
    refine ⟨[.int k v], 1, .cons (.int _ _) (.nil _ _), ?_, by simp [MV.one]⟩
    unfold TyM
    rw [hu]
    exact ⟨v, rfl, hwf⟩
  · rename_i hu
    obtain ⟨b, rfl, rfl⟩ := DataW.trod_bool hu h
    refine ⟨[.bool b], 1, .cons (.bool _) (.nil _ _), ?_, by simp [MV.one]⟩
    unfold TyM
    rw [hu]
    exact ⟨b, rfl⟩
  · rename_i hu
    obtain ⟨s, rfl, rfl, hs⟩ := DataW.trod_string hu h
    refine ⟨[.str s], 1, .cons (.str _) (.nil _ _), ?_, by simp [MV.one]⟩
    unfold TyM
    rw [hu]
    exact ⟨s, rfl, hs⟩
  · rename_i e hu
    simp only [Bool.and_eq_true] at hot
    have he : e ∈ ts := natMem_iff.1 hot.1
    rcases open_slice hu h with ⟨rfl, rfl⟩ | ⟨a, len, cap, m, n', D, Pl, rfl, hb, hl, hm, hmm, rfl, hi⟩
    · refine ⟨[.lst none (P.cellsOf e) []], 1, .cons (Sub.nil _ _ _ _ .lst0) (.nil _ _), ?_, by simp [MV.one]⟩
      unfold TyM
      rw [hu]
      exact ⟨[], rfl, fun x hx => by cases hx⟩
    · have hlm : len ≤ m := by rw [hmm]; split <;> omega
      have hel : ∀ i, i < len → ∃ (l : List MV) (k : Nat) (us : List Value), us.length = P.cellsOf e ∧ Rds (g0 W) W l us ∧ TyM P k e l ∧ (∀ y ∈ l, y.one = true) ∧ ∀ j, j < P.cellsOf e → W.cell? ((a.add (i * P.cellsOf e)).add j) = us[j]? := by
        intro i hil
        obtain ⟨cs', hc, ht'⟩ := hi i (by omega)
        obtain ⟨_, hlen, hcell⟩ := World.cells?_some hc
        have hsz : SizeOf.sizeOf (D i) < n := by
          have hmem : D i ∈ (List.range len).map D := List.mem_map.2 ⟨i, List.mem_range.2 hil, rfl⟩
          have := List.sizeOf_lt_of_mem hmem
          simp only [DataW.slice.sizeOf_spec] at hx
          omega
        obtain ⟨l, k, h1, h2, h3⟩ := ih _ hsz (D i, Pl i) n' e cs' (Nat.le_refl _) he ht'
        exact ⟨l, k, cs', hlen, h1, h2, h3, hcell⟩
      have hall : ∀ (N : Nat), N ≤ len → ∃ (xs : List MV) (us : List Value) (k : Nat), xs.length = N ∧ us.length = N * P.cellsOf e ∧ Rds (g0 W) W (flat xs) us ∧ (∀ y ∈ flat xs, y.one = true) ∧ (∀ x ∈ xs, x.cells.length = P.cellsOf e ∧ TyM P k e x.cells ∧ ElF P e x) ∧
          ∀ j, j < N * P.cellsOf e → W.cell? (a.add j) = us[j]? := by
        intro N
        induction N with
        | zero => exact fun _ => ⟨[], [], 0, rfl, by simp, .nil _ _, by simp [flat], by simp, by simp⟩
        | succ N ihN =>
          intro hN
          obtain ⟨xs, us, k, q1, q2, q3, q4, q5, q6⟩ := ihN (by omega)
          obtain ⟨l, k', us', r1, r2, r3, r4, r5⟩ := hel N (by omega)
          have hll : l.length = P.cellsOf e := by rw [← r2.1, r1]
          obtain ⟨y, hy1, hy2⟩ : ∃ y : MV, y.cells = l ∧ ElF P e y := by
            cases hue : P.underlying e with
            | none => 
              have hk1 : P.cellsOf e = 1 := by have := hot.2; rw [hue] at this; exact Nat.eq_of_beq_eq_true this
              match l, hll.trans hk1 with
              | [y], _ =>
                have := r4 y (zW0 ..)
                simp only [ElF, hue]
                refine ⟨y, ?_, ?_⟩ <;> (cases y <;> first | rfl | (cases this; done))
            | some d =>
              cases d with
              | struct fs => exact ⟨.agg l, rfl, by simp only [ElF, hue]; rfl⟩
              | _ =>
                have hk1 : P.cellsOf e = 1 := by have := hot.2; rw [hue] at this; exact Nat.eq_of_beq_eq_true this
                match l, hll.trans hk1 with
                | [y], _ =>
                  have := r4 y (zW0 ..)
                  simp only [ElF, hue]
                  refine ⟨y, ?_, ?_⟩ <;> (cases y <;> first | rfl | (cases this; done))
          refine ⟨xs ++ [y], us ++ us', max k k', by simp [q1], by rw [zN, q2, r1, Nat.add_mul]; omega, ?_, ?_, ?_, ?_⟩
          · rw [zY5]
            refine q3.append ?_
            simp only [flat, List.flatMap_cons, List.flatMap_nil, List.append_nil, hy1]
            exact r2
          · intro z hz
            rw [zY5, zS1] at hz
            rcases hz with hz | hz
            · exact q4 z hz
            · simp only [flat, List.flatMap_cons, List.flatMap_nil, List.append_nil, hy1] at hz
              exact r4 z hz
          · intro x hx
            rcases zS1.1 hx with hx | hx
            · exact ⟨(q5 x hx).1, tyM_le (by omega) (q5 x hx).2.1, (q5 x hx).2.2⟩
            · simp at hx
              subst hx
              rw [hy1]
              exact ⟨hll, tyM_le (by omega) r3, hy2⟩
          · intro j hj
            rw [Nat.add_mul, Nat.one_mul] at hj
            by_cases hjl : j < N * P.cellsOf e
            · rw [List.getElem?_append_left (by omega)]
              exact q6 j hjl
            · rw [List.getElem?_append_right (by omega), q2, ← r5 (j - N * P.cellsOf e) (by omega), Go.MV.add_add]
              congr 2
              omega
      obtain ⟨xs, us, k, q1, q2, q3, q4, q5, q6⟩ := hall len (Nat.le_refl _)
      refine ⟨[.lst none (P.cellsOf e) xs], k + 1, .cons (.lst' q1 hl hm (fun x hx => (q5 x hx).1) q3 (fun j u hu => ⟨a, rfl, stab0 ?_ ?_⟩) (fun t ht => by cases ht)) (.nil _ _), ?_, by simp [MV.one]⟩
      · have hj : j < us.length := (zI.1 hu).1
        rw [q6 j (by omega)]
        exact hu
      · have hj : j < us.length := (zI.1 hu).1
        have hjf : j < (flat xs).length := by rw [← q3.1]; exact hj
        exact one_cell (q3.2 j _ u (zD hjf) hu) (q4 _ (List.getElem_mem hjf))
      · unfold TyM
        rw [hu]
        exact ⟨xs, rfl, q5⟩
  · rename_i fs hu
    simp only [Bool.and_eq_true, List.all_eq_true] at hot
    obtain ⟨xs, n', rfl, rfl, hlen, hxl, hf⟩ := DataW.trod_struct hu h
    have hfld : ∀ f ∈ fs.toList, ∃ (k : Nat) (l : List MV), Rds (g0 W) W l ((cs.drop f.offset).take (P.cellsOf f.type)) ∧ TyM P k f.type l ∧ ∀ y ∈ l, y.one = true := by
      intro f hfm
      obtain ⟨i, hi⟩ := List.getElem?_of_mem hfm
      have hi' : fs[i]? = some f := by simpa using hi
      have hilt : i < xs.length := by rw [hxl]; exact (Array.getElem?_eq_some_iff.1 hi').1
      have htr := hf i f hi'
      rw [zD hilt] at htr
      have hsz : SizeOf.sizeOf xs[i].1 < n := by
        have hmem : xs[i].1 ∈ xs.map (·.1) := List.mem_map.2 ⟨xs[i], List.getElem_mem hilt, rfl⟩
        have := List.sizeOf_lt_of_mem hmem
        simp only [DataW.agg.sizeOf_spec] at hx
        omega
      obtain ⟨l, k, h1, h2, h3⟩ := ih _ hsz xs[i] n' f.type _ (Nat.le_refl _) (natMem_iff.1 (hot.1 f hfm)) htr
      exact ⟨k, l, h1, h2, h3⟩
    obtain ⟨K, hK⟩ := common_bound (p := fun k (f : Field) => ∃ l : List MV, Rds (g0 W) W l ((cs.drop f.offset).take (P.cellsOf f.type)) ∧ TyM P k f.type l ∧ ∀ y ∈ l, y.one = true) (fun a b f hab ⟨l, h1, h2, h3⟩ => ⟨l, h1, tyM_le hab h2, h3⟩) fs.toList hfld
    have hcont := hot.2
    have hlens : ∀ (gs : List Field) (off : Nat), contig P (P.cellsOf t) gs off = true → off ≤ P.cellsOf t ∧ ∀ f ∈ gs, f.offset + P.cellsOf f.type ≤ P.cellsOf t := by
      intro gs
      induction gs with
      | nil => exact fun off hc => ⟨Nat.le_of_eq (Nat.eq_of_beq_eq_true hc), fun f hf => by cases hf⟩
      | cons f gs ihg =>
        intro off hc
        simp only [contig, Bool.and_eq_true] at hc
        have ho := Nat.eq_of_beq_eq_true hc.1
        obtain ⟨h1, h2⟩ := ihg _ hc.2
        refine ⟨by omega, fun f' hf' => ?_⟩
        rcases List.mem_cons.1 hf' with rfl | hf'
        · omega
        · exact h2 f' hf'
    obtain ⟨l, h1, h2, h3⟩ := rds_of_fields (P := P) (W := W) (T := TyM P K) hlen fs.toList 0 hcont (fun f hfm => by
      obtain ⟨l, h1, h2, h3⟩ := hK f hfm
      refine ⟨l, h1, h2, ?_, h3⟩
      have := (hlens _ _ hcont).2 f hfm
      rw [← h1.1, List.length_take, List.length_drop, hlen]
      omega)
    refine ⟨l, K + 1, by simpa using h1, ?_, h3⟩
    unfold TyM
    rw [hu]
    exact h2
  · cases hot
end
section
variable {H : Type} {enc : TypeId × Value → H} {P : Program} {W : World} {base b0 : Nat} {spare : Nat → Bool} {held : Bool} {r : Reach}
theorem arg_struct {ts : List TypeId} (hok : okTypes P ts = true) {t : TypeId} {fs : Array Field} (ht : t ∈ ts) (hu : P.underlying t = some (.struct fs)) {v : Value} {d : DataW H} {p : List MemPlace} (hv : Value.okWide P W r b0 t v) (h : DataW.Trod enc P W base spare held t v d p) :
    ∃ (l : List MV) (m : Nat), Rd (g0 W) W (.agg l) v ∧ TyM P m t l := by
  obtain ⟨cs, rfl, hsz⟩ := okWide_struct hu hv
  obtain ⟨fuel, hf⟩ := h
  obtain ⟨l, m, h1, h2, _⟩ := reads_gen hok _ _ _ _ _ (Nat.le_refl _) ht hf
  refine ⟨l, m, ?_, h2⟩
  have := Rd.agg' h1
  simpa [Value.cells] using this
end
end
end Go.MV
namespace Go.Proofs.YtnfcnpdpfgcchaaGreatDoor
open Go Go.MV Go.RowKit
def fixE : MObj := .fixed ⟨0, 0, none⟩ hndErr
theorem errAs_spec (k old : Int) (i id : Nat) (S : MS) (hi : S[i]? = some fixE) (hid : S[id]? = some (.cells [.int .i64 old])) :
  MCalls Tryz.prog 38 [.iface 62 (.int .i64 k), .iface 71 (.ref id 0)] S fun v σ' => v = .bool true ∧ σ' = S.set id (.cells [.int .i64 k]) := by
 intro g w vs hrel hrd
 obtain ⟨u, us, rfl, h1, h2⟩ := hrd.uncons
 obtain ⟨u2, us2, rfl, h3, h4⟩ := h2.uncons
 obtain ⟨a, rfl, ha⟩ := h1.inv_iface
 obtain ⟨b, rfl, hb⟩ := h3.inv_iface
 have e1 := ha.inv_int
 obtain ⟨blk, hbk, e2⟩ := hb.inv_ref
 have e3 : us2 = [] := List.eq_nil_of_length_eq_zero h4.1
 subst e1 e2 e3
 obtain ⟨own, hown⟩ := hrel.ex
 obtain ⟨_, hst⟩ := hown.obj _ _ hi
 have hg : w.cell? ⟨0, 0, none⟩ = some hndErr := hst.2.1
 obtain ⟨b', us', ty, f1, f2, f3, ⟨fr, f4, f5⟩, f6⟩ := hown.obj _ _ hid
 rw [hbk] at f2
 injection f2 with f2
 subst f2
 obtain ⟨v0, us3, rfl, q1, q2⟩ := f6.uncons
 have e4 : us3 = [] := List.eq_nil_of_length_eq_zero q2.1
 have e5 := q1.inv_int
 subst e4 e5
 have hlt : blk < w.heap.size := (hown.lt _ _ f1).2.2
 have hc : w.cell? ⟨blk, 0, none⟩ = some (.int .i64 old) := by simp [World.cell?, f4]
 have hf : w.frozen? ⟨blk, 0, none⟩ = false := by
  rcases f5 with rfl | hfr
  ·simp [World.frozen?, f4]
  ·simp at hfr
   simp [World.frozen?, f4]
   omega
 refine (callsIn_wide.2 (as_hit k ⟨blk, 0, none⟩ _ w hg hc hf)).mono ?_
 rintro e w' ⟨rfl, rfl⟩
 have r1 := hrel.alloc_stab (.cells #[.pointer (some ⟨blk, 0, none⟩)] 71) 0
 have l1 := Le.alloc_stab hrel (.cells #[.pointer (some ⟨blk, 0, none⟩)] 71) 0
 have r2 := r1.alloc_stab (.cells #[.pointer (some ⟨2, 71, none⟩), .pointer (some ⟨w.heap.size, 0, none⟩), .int .u64 150] 90) 0
 have l2 := Le.alloc_stab r1 (.cells #[.pointer (some ⟨2, 71, none⟩), .pointer (some ⟨w.heap.size, 0, none⟩), .int .u64 150] 90) 0
 have r3 := r2.alloc_stab (.cells #[.pointer (some ⟨2, 71, none⟩), .pointer (some ⟨w.heap.size, 0, none⟩), .int .u64 150] 90) 0
 have l3 := Le.alloc_stab r2 (.cells #[.pointer (some ⟨2, 71, none⟩), .pointer (some ⟨w.heap.size, 0, none⟩), .int .u64 150] 90) 0
 have r4 := r3.alloc_stab (.cells #[.int .i64 k] 62) 0
 have l4 := Le.alloc_stab r3 (.cells #[.int .i64 k] 62) 0
 have hb4 : (asW ⟨blk, 0, none⟩ k w).heap[blk]? = some (.cells [Value.int .i64 old].toArray ty fr) := by
  rw [Below.heap_alloc _ _ _ (by simp; omega), Below.heap_alloc _ _ _ (by simp; omega), Below.heap_alloc _ _ _ (by simp; omega), Below.heap_alloc _ _ _ hlt]
  exact f4
 obtain ⟨hrel5, hl5⟩ := r4.store (cs := [.int .i64 k]) (us := [.int .i64 k]) (off := 0) hid (.cons (.int _ _) (.nil _ _)) (by simp) hbk hb4
 have hw : (asW ⟨blk, 0, none⟩ k w).setCell ⟨blk, 0, none⟩ (.int .i64 k) = (asW ⟨blk, 0, none⟩ k w).setRow blk ([Value.int .i64 old].take 0 ++ [Value.int .i64 k] ++ [Value.int .i64 old].drop (0 + 1)).toArray := setCell_eq_setRow _ _ _ _ _ _ _ hb4
 rw [hw]
 exact ⟨_, rfl, .bool true, _, _, ⟨rfl, rfl⟩, hrel5, .bool _, (((l1.trans l2).trans l3).trans l4).trans hl5⟩
theorem errAs_own (n : Int) (S : MS) (hS : S[0]? = some fixE) : MCalls Tryz.prog 38 [encErr n, .iface 71 (.ref (S.length + 0) 0)] (S ++ [.cells [.int .i64 0]]) fun v σ' => v = .bool true ∧ σ' = S ++ [.cells [.int .i64 n]] := by
 refine (errAs_spec n 0 0 (S.length + 0) _ (zZ hS) (by rw [getElem?_own]; rfl)).mono ?_
 rintro v σ' ⟨rfl, rfl⟩
 exact ⟨rfl, by rw [zM4]; rfl⟩
theorem rel0F (W : World) {ad : Addr} {v : Value} (h : W.cell? (ad.add 0) = some v) (h1 : v.oneCell' = true) : Rel (g0 W) [.fixed ad v] W := by
 refine ⟨.refl _ _, Nat.le_refl _, (rel0 W).fresh, fun _ _ => rfl, fun _ _ _ => rfl, fun _ => none, ⟨fun id o h => ?_, fun i j b h => (by cases h), fun id b h => (by cases h)⟩⟩
 cases id with
 | zero =>
  simp at h
  subst h
  exact ⟨rfl, stab0 (by assumption) h1⟩
 | succ n => simp at h
theorem law_callsF {P : Program} {f : FuncId} {xs : List MV} {W : World} {vs : List Value} {ad : Addr} {u : Value} (hu : W.cell? (ad.add 0) = some u) (h1 : u.oneCell' = true) (h : MCalls P f xs [.fixed ad u] fun v σ' => v = .bool true ∧ σ' = [.fixed ad u]) (hr : Rds (g0 W) W xs vs) : Calls P f vs.toArray W fun e w' => e = .returned (.bool true) ∧ Below W.heap.size W w' := by
 refine (callsIn_wide.1 (h (g0 W) W vs (rel0F W hu h1) hr)).mono ?_
 rintro e w' ⟨v, rfl, x, σ', g', ⟨rfl, rfl⟩, hrel, hrd, hle⟩
 rw [hrd.inv_bool]
 have := hrel.below
 rw [hle.B, hle.w0] at this
 exact ⟨rfl, this⟩
theorem code6_nil (S : MS) : MCalls Tryz.prog 18 [.iface0] S fun v σ' => v = .int .i64 0 ∧ σ' = S := by
 refine zU Tryz.func18 rfl Tryz.ntmps18 (zA rfl) ?_
 refine zB <| qR rfl <| qA rfl rfl rfl <| qN <| zB <| qR rfl <| qO rfl <| zN0 rfl zm62 rfl rfl <| qN <| zB <| zB <| qR rfl <| qM rfl rfl rfl <| qO rfl <| zS3 rfl zI0 rfl rfl (.inl ⟨rfl, rfl⟩) <| qN <| zW rfl (rfl) <| zB <| qR rfl <| qA rfl rfl rfl <| qN <| zK ?_
 exact zQ (.inr rfl) Tryz.results18 rfl (.refl _) (.int _ _) ⟨rfl, rfl⟩
theorem code6_err (n : Int) (S : MS) (hS : S[0]? = some fixE) : MCalls Tryz.prog 18 [encErr n] S fun v σ' => v = .int .i64 n ∧ σ' = S := by
 refine zU Tryz.func18 rfl Tryz.ntmps18 (zA rfl) ?_
 show mwp _ _ _ _ _ _ _ _
 refine zB <| qR rfl <| qA rfl rfl rfl <| qN <| zB <| qR rfl <| qO rfl <| zN0 rfl zm62 rfl rfl <| qN <| zB <| zB <| qR rfl <| qM rfl rfl rfl <| qO rfl <| zY2 rfl zI0 rfl rfl (.inl ⟨rfl, rfl⟩) <| qN <| zL rfl (rfl) <| zA0 <| zB <| zB <| qR rfl <| qM rfl rfl rfl <| qO rfl <| zA2 rfl rfl Tryz.underlying71 (by simp) ?_
 refine qX rfl rfl rfl rfl co38 (errAs_own n S hS) ?_
 refine qO rfl <| zG1 rfl rfl <| qN <| zL rfl (rfl) <| zA0 <| zB <| qR rfl <| qL rfl rfl rfl rfl ta62 rfl <| qA rfl rfl rfl <| qN <| zK ?_
 exact zQ (.inr rfl) Tryz.results18 rfl (.refl _) (.int _ _) ⟨rfl, rfl⟩
end Go.Proofs.YtnfcnpdpfgcchaaGreatDoor
namespace Go.Proofs.YtnfcnpdpfgcchaaGreatDoor
open Go Go.MV
def encKI (o : Except Int Int) : MV := .tup [.int .i64 (match o with | .error _ => 0 | .ok v => v), match o with | .error n => .int .i64 n | .ok _ => .int .i64 0]
theorem leqR (s : Sch) (a b : Val) : (∃ l, leqVF s a b = .ok l) ∨ leqVF s a b = .error 14 := by
 rcases joinR s a b with ⟨n, m, t, c, w, h⟩ | h | h
 ·exact .inl ⟨_, leq_ok h⟩
 ·exact .inl ⟨_, leq_13 h⟩
 ·exact .inr (leq_14 h)
theorem leq_turn {s : Sch} {a b : Val} {l : Bool} (h : leqVF s a b = .ok l) : ∃ m, leqVF s b a = .ok m := by
 rcases leqR s b a with h2 | h2
 ·exact h2
 ·exfalso
  by_cases hc : (isF 16 s && isVF s b) = true ∧ (isF 16 s && isVF s a) = true
  ·rcases joinR s b a with ⟨n, m, t, c, w, hj⟩ | hj | hj
   ·rw [leq_ok hj] at h2; cases h2
   ·rw [leq_13 hj] at h2; cases h2
   ·unfold joinVF at hj
    rw [if_pos hc] at hj
    split at hj
    ·cases hj
    ·injection hj with hj; exact absurd hj (by decide)
  ·have hab : joinVF s a b = .error 14 := join_err fun hq => hc ⟨hq.2, hq.1⟩
   rw [leq_14 hab] at h
   cases h
theorem rLeq_at {s : Sch} {a b : Val} {r : Except Int Bool} (oa : okV a) (ob : okV b) (h : leqVF s a b = r) (S : MS) : MCalls Tryz.prog 15 [encS s, encV a, encV b] S fun v σ' => v = encLI r ∧ σ' = S := h ▸ rLeq_spec s a b oa ob S
theorem rCmp_spec (s : Sch) (a b : Val) (oa : okV a) (ob : okV b) (S : MS) : MCalls Tryz.prog 17 [encS s, encV a, encV b] S fun v σ' => v = encKI (cmpVF s a b) ∧ σ' = S := by
 obtain ⟨k, ins⟩ := s
 obtain ⟨n1, m1, s1, c1, w1⟩ := a
 obtain ⟨n2, m2, s2, c2, w2⟩ := b
 refine zU Tryz.func17 rfl Tryz.ntmps17 (zA rfl) ?_
 refine zB <| qR rfl <| qB rfl rfl rfl rfl rfl <| qB rfl rfl rfl rfl rfl <| qB rfl rfl rfl rfl rfl <| qA rfl rfl rfl <| qA rfl rfl rfl <| qN <| zB ?_
 rcases leqR (.mk k ins) (.mk n1 m1 s1 c1 w1) (.mk n2 m2 s2 c2 w2) with ⟨l, hl⟩ | hl
 rotate_left
 rotate_left
 obtain ⟨m, hm⟩ := leq_turn hl
 cases l <;> cases m
 rotate_left 4
 ·
  refine qR rfl <| qL rfl rfl rfl rfl ta24 rfl <| qL rfl rfl rfl rfl ta30 rfl <| qL rfl rfl rfl rfl ta30 rfl ?_
  refine qX rfl rfl rfl rfl co15 (rLeq_at oa ob hl _) ?_
  refine qM rfl rfl rfl <| qO rfl <| zE0 rfl rfl rfl <| qO rfl <| zE0 rfl rfl rfl <| qA rfl rfl rfl <| qA rfl rfl rfl <| qN <| zB <| qR rfl <| qL rfl rfl rfl rfl ta24 rfl <| qL rfl rfl rfl rfl ta30 rfl <| qL rfl rfl rfl rfl ta30 rfl ?_
  refine qX rfl rfl rfl rfl co15 (rLeq_spec (.mk k ins) (.mk n2 m2 s2 c2 w2) (.mk n1 m1 s1 c1 w1) ob oa _) ?_
  refine qM rfl rfl rfl <| qO rfl <| zE0 rfl rfl rfl <| qO rfl <| zE0 rfl rfl rfl <| qA rfl rfl rfl <| qA rfl rfl rfl <| qN <| zB <| zB0 <| zB <| qR rfl <| qM rfl rfl rfl <| qC rfl rfl rfl rfl rfl <| qA rfl rfl rfl <| qN <| zW rfl (rfl) <| zB <| qR rfl <| qM rfl rfl rfl <| qA rfl rfl rfl <| qA rfl rfl rfl ?_
  refine qN <| zK ?_
  exact zH4 (.inr rfl) Tryz.results17 rfl rfl (.refl _) (.refl _) (.int _ _) (.int _ _) ⟨by rw [cmp_e hl]; rfl, rfl⟩
 ·
  refine qR rfl <| qL rfl rfl rfl rfl ta24 rfl <| qL rfl rfl rfl rfl ta30 rfl <| qL rfl rfl rfl rfl ta30 rfl ?_
  refine qX rfl rfl rfl rfl co15 (rLeq_at oa ob hl _) ?_
  refine qM rfl rfl rfl <| qO rfl <| zE0 rfl rfl rfl <| qO rfl <| zE0 rfl rfl rfl <| qA rfl rfl rfl <| qA rfl rfl rfl <| qN <| zB <| qR rfl <| qL rfl rfl rfl rfl ta24 rfl <| qL rfl rfl rfl rfl ta30 rfl <| qL rfl rfl rfl rfl ta30 rfl ?_
  refine qX rfl rfl rfl rfl co15 (rLeq_at ob oa hm _) ?_
  refine qM rfl rfl rfl <| qO rfl <| zE0 rfl rfl rfl <| qO rfl <| zE0 rfl rfl rfl <| qA rfl rfl rfl <| qA rfl rfl rfl <| qN <| zB <| zB0 <| zB <| qR rfl <| qM rfl rfl rfl <| qC rfl rfl rfl rfl rfl <| qA rfl rfl rfl <| qN <| zL rfl (rfl) <| zB <| qR rfl <| qM rfl rfl rfl <| qM rfl rfl rfl <| qS rfl ?_
  refine qP rfl rfl rfl rfl <| qA rfl rfl rfl <| qN <| zL rfl (rfl) <| zB <| qR rfl <| qM rfl rfl rfl <| qA rfl rfl rfl <| qN <| zL rfl (rfl) <| zB <| qR rfl <| qM rfl rfl rfl <| qA rfl rfl rfl <| qN <| zL rfl (rfl) <| zA0 <| zB <| qR rfl <| qA rfl rfl rfl <| qA rfl rfl rfl <| qN ?_
  refine zK ?_
  exact zH4 (.inr rfl) Tryz.results17 rfl rfl (.refl _) (.refl _) (.int _ _) (.int _ _) ⟨by rw [cmp_ok hl hm]; rfl, rfl⟩
 ·
  refine qR rfl <| qL rfl rfl rfl rfl ta24 rfl <| qL rfl rfl rfl rfl ta30 rfl <| qL rfl rfl rfl rfl ta30 rfl ?_
  refine qX rfl rfl rfl rfl co15 (rLeq_at oa ob hl _) ?_
  refine qM rfl rfl rfl <| qO rfl <| zE0 rfl rfl rfl <| qO rfl <| zE0 rfl rfl rfl <| qA rfl rfl rfl <| qA rfl rfl rfl <| qN <| zB <| qR rfl <| qL rfl rfl rfl rfl ta24 rfl <| qL rfl rfl rfl rfl ta30 rfl <| qL rfl rfl rfl rfl ta30 rfl ?_
  refine qX rfl rfl rfl rfl co15 (rLeq_at ob oa hm _) ?_
  refine qM rfl rfl rfl <| qO rfl <| zE0 rfl rfl rfl <| qO rfl <| zE0 rfl rfl rfl <| qA rfl rfl rfl <| qA rfl rfl rfl <| qN <| zB <| zB0 <| zB <| qR rfl <| qM rfl rfl rfl <| qC rfl rfl rfl rfl rfl <| qA rfl rfl rfl <| qN <| zL rfl (rfl) <| zB <| qR rfl <| qM rfl rfl rfl <| qM rfl rfl rfl <| qS rfl ?_
  refine qP rfl rfl rfl rfl <| qA rfl rfl rfl <| qN <| zL rfl (rfl) <| zB <| qR rfl <| qM rfl rfl rfl <| qA rfl rfl rfl <| qN <| zL rfl (rfl) <| zB <| qR rfl <| qM rfl rfl rfl <| qA rfl rfl rfl <| qN <| zW rfl (rfl) <| zB <| qR rfl <| qA rfl rfl rfl <| qA rfl rfl rfl <| qN <| zK ?_
  exact zH4 (.inr rfl) Tryz.results17 rfl rfl (.refl _) (.refl _) (.int _ _) (.int _ _) ⟨by rw [cmp_ok hl hm]; rfl, rfl⟩
 ·
  refine qR rfl <| qL rfl rfl rfl rfl ta24 rfl <| qL rfl rfl rfl rfl ta30 rfl <| qL rfl rfl rfl rfl ta30 rfl ?_
  refine qX rfl rfl rfl rfl co15 (rLeq_at oa ob hl _) ?_
  refine qM rfl rfl rfl <| qO rfl <| zE0 rfl rfl rfl <| qO rfl <| zE0 rfl rfl rfl <| qA rfl rfl rfl <| qA rfl rfl rfl <| qN <| zB <| qR rfl <| qL rfl rfl rfl rfl ta24 rfl <| qL rfl rfl rfl rfl ta30 rfl <| qL rfl rfl rfl rfl ta30 rfl ?_
  refine qX rfl rfl rfl rfl co15 (rLeq_at ob oa hm _) ?_
  refine qM rfl rfl rfl <| qO rfl <| zE0 rfl rfl rfl <| qO rfl <| zE0 rfl rfl rfl <| qA rfl rfl rfl <| qA rfl rfl rfl <| qN <| zB <| zB0 <| zB <| qR rfl <| qM rfl rfl rfl <| qC rfl rfl rfl rfl rfl <| qA rfl rfl rfl <| qN <| zL rfl (rfl) <| zB <| qR rfl <| qM rfl rfl rfl <| qM rfl rfl rfl <| qM rfl rfl rfl ?_
  refine qP rfl rfl rfl rfl <| qA rfl rfl rfl <| qN <| zL rfl (rfl) <| zB <| qR rfl <| qM rfl rfl rfl <| qA rfl rfl rfl <| qN <| zW rfl (rfl) <| zB <| qR rfl <| qA rfl rfl rfl <| qA rfl rfl rfl <| qN <| zK ?_
  exact zH4 (.inr rfl) Tryz.results17 rfl rfl (.refl _) (.refl _) (.int _ _) (.int _ _) ⟨by rw [cmp_ok hl hm]; rfl, rfl⟩
 ·
  refine qR rfl <| qL rfl rfl rfl rfl ta24 rfl <| qL rfl rfl rfl rfl ta30 rfl <| qL rfl rfl rfl rfl ta30 rfl ?_
  refine qX rfl rfl rfl rfl co15 (rLeq_at oa ob hl _) ?_
  refine qM rfl rfl rfl <| qO rfl <| zE0 rfl rfl rfl <| qO rfl <| zE0 rfl rfl rfl <| qA rfl rfl rfl <| qA rfl rfl rfl <| qN <| zB <| qR rfl <| qL rfl rfl rfl rfl ta24 rfl <| qL rfl rfl rfl rfl ta30 rfl <| qL rfl rfl rfl rfl ta30 rfl ?_
  refine qX rfl rfl rfl rfl co15 (rLeq_at ob oa hm _) ?_
  refine qM rfl rfl rfl <| qO rfl <| zE0 rfl rfl rfl <| qO rfl <| zE0 rfl rfl rfl <| qA rfl rfl rfl <| qA rfl rfl rfl <| qN <| zB <| zB0 <| zB <| qR rfl <| qM rfl rfl rfl <| qC rfl rfl rfl rfl rfl <| qA rfl rfl rfl <| qN <| zL rfl (rfl) <| zB <| qR rfl <| qM rfl rfl rfl <| qM rfl rfl rfl <| qM rfl rfl rfl ?_
  refine qP rfl rfl rfl rfl <| qA rfl rfl rfl <| qN <| zW rfl (rfl) <| zB <| qR rfl <| qA rfl rfl rfl <| qA rfl rfl rfl <| qN <| zK ?_
  exact zH4 (.inr rfl) Tryz.results17 rfl rfl (.refl _) (.refl _) (.int _ _) (.int _ _) ⟨by rw [cmp_ok hl hm]; rfl, rfl⟩
theorem rCmp_at {s : Sch} {a b : Val} {r : Except Int Int} (oa : okV a) (ob : okV b) (h : cmpVF s a b = r) (S : MS) : MCalls Tryz.prog 17 [encS s, encV a, encV b] S fun v σ' => v = encKI r ∧ σ' = S := h ▸ rCmp_spec s a b oa ob S
theorem OrderTells_spec (s : Sch) (a b : Val) (oa : okV a) (ob : okV b) (S : MS) (hS : S[0]? = some fixE) : MCalls Tryz.prog 4 [encS s, encV a, encV b] S fun v σ' => v = .bool true ∧ σ' = S := by
 obtain ⟨k, ins⟩ := s
 obtain ⟨n1, m1, s1, c1, w1⟩ := a
 obtain ⟨n2, m2, s2, c2, w2⟩ := b
 refine zU Tryz.func4 rfl Tryz.ntmps4 (zA rfl) ?_
 refine zB <| qR rfl <| qB rfl rfl rfl rfl rfl <| qB rfl rfl rfl rfl rfl <| qB rfl rfl rfl rfl rfl <| qA rfl rfl rfl <| qN <| zB <| zB <| qR rfl ?_
 refine qX rfl rfl rfl rfl co13 (knownO_spec _) ?_
 refine qO rfl <| zG1 rfl rfl <| qN <| zL rfl (rfl) <| zA0 <| zB ?_
 rcases leqR (.mk k ins) (.mk n1 m1 s1 c1 w1) (.mk n2 m2 s2 c2 w2) with ⟨l, hl⟩ | hl
 have hc : cmpVF (.mk k ins) (.mk n1 m1 s1 c1 w1) (.mk n2 m2 s2 c2 w2) = .ok _ := cmp_ok hl (leq_turn hl).choose_spec
 rotate_left
 have hc := cmp_e hl
 rotate_left
 ·
  refine qR rfl <| qL rfl rfl rfl rfl ta24 rfl <| qL rfl rfl rfl rfl ta30 rfl <| qL rfl rfl rfl rfl ta30 rfl ?_
  refine qX rfl rfl rfl rfl co14 (leq_at oa ob hl _) ?_
  refine qM rfl rfl rfl <| qO rfl <| zE0 rfl rfl rfl <| qO rfl <| zE0 rfl rfl rfl <| qA rfl rfl rfl <| qA rfl rfl rfl <| qN <| zB <| qR rfl <| qL rfl rfl rfl rfl ta24 rfl <| qL rfl rfl rfl rfl ta30 rfl <| qL rfl rfl rfl rfl ta30 rfl ?_
  refine qX rfl rfl rfl rfl co15 (rLeq_at oa ob hl _) ?_
  refine qM rfl rfl rfl <| qO rfl <| zE0 rfl rfl rfl <| qO rfl <| zE0 rfl rfl rfl <| qA rfl rfl rfl <| qA rfl rfl rfl <| qN <| zB <| qR rfl <| qL rfl rfl rfl rfl ta24 rfl <| qL rfl rfl rfl rfl ta30 rfl <| qL rfl rfl rfl rfl ta30 rfl ?_
  refine qX rfl rfl rfl rfl co16 (cmp_at oa ob hc _) ?_
  refine qM rfl rfl rfl <| qO rfl <| zE0 rfl rfl rfl <| qO rfl <| zE0 rfl rfl rfl <| qA rfl rfl rfl <| qA rfl rfl rfl <| qN <| zB <| qR rfl <| qL rfl rfl rfl rfl ta24 rfl <| qL rfl rfl rfl rfl ta30 rfl <| qL rfl rfl rfl rfl ta30 rfl ?_
  refine qX rfl rfl rfl rfl co17 (rCmp_at oa ob hc _) ?_
  refine qM rfl rfl rfl <| qO rfl <| zE0 rfl rfl rfl <| qO rfl <| zE0 rfl rfl rfl <| qA rfl rfl rfl <| qA rfl rfl rfl <| qN <| zB <| qR rfl <| qM rfl rfl rfl <| qM rfl rfl rfl <| qO rfl <| op_booleq rfl Tryz.underlying4 rfl rfl ?_
  try rw [beq_self_eq_true]
  refine qM rfl rfl rfl <| qM rfl rfl rfl ?_
  refine qX rfl rfl rfl rfl co18 (code6_nil _) ?_
  refine qM rfl rfl rfl <| qC rfl rfl rfl rfl (eqlI rfl) <| qP rfl rfl rfl rfl <| qM rfl rfl rfl <| qM rfl rfl rfl <| qM rfl rfl rfl <| qC rfl rfl rfl rfl (eqlI rfl) <| qP rfl rfl rfl rfl <| qM rfl rfl rfl <| qM rfl rfl rfl ?_
  refine qX rfl rfl rfl rfl co18 (code6_nil _) ?_
  refine qM rfl rfl rfl <| qC rfl rfl rfl rfl (eqlI rfl) <| qP rfl rfl rfl rfl <| qA rfl rfl rfl <| qN <| zK ?_
  exact zQ (.inr rfl) Tryz.results4 rfl (.of_eq (rfl)) (.bool _) ⟨rfl, rfl⟩
 ·
  refine qR rfl <| qL rfl rfl rfl rfl ta24 rfl <| qL rfl rfl rfl rfl ta30 rfl <| qL rfl rfl rfl rfl ta30 rfl ?_
  refine qX rfl rfl rfl rfl co14 (leq_at oa ob hl _) ?_
  refine qM rfl rfl rfl <| qO rfl <| zE0 rfl rfl rfl <| qO rfl <| zE0 rfl rfl rfl <| qA rfl rfl rfl <| qA rfl rfl rfl <| qN <| zB <| qR rfl <| qL rfl rfl rfl rfl ta24 rfl <| qL rfl rfl rfl rfl ta30 rfl <| qL rfl rfl rfl rfl ta30 rfl ?_
  refine qX rfl rfl rfl rfl co15 (rLeq_at oa ob hl _) ?_
  refine qM rfl rfl rfl <| qO rfl <| zE0 rfl rfl rfl <| qO rfl <| zE0 rfl rfl rfl <| qA rfl rfl rfl <| qA rfl rfl rfl <| qN <| zB <| qR rfl <| qL rfl rfl rfl rfl ta24 rfl <| qL rfl rfl rfl rfl ta30 rfl <| qL rfl rfl rfl rfl ta30 rfl ?_
  refine qX rfl rfl rfl rfl co16 (cmp_at oa ob hc _) ?_
  refine qM rfl rfl rfl <| qO rfl <| zE0 rfl rfl rfl <| qO rfl <| zE0 rfl rfl rfl <| qA rfl rfl rfl <| qA rfl rfl rfl <| qN <| zB <| qR rfl <| qL rfl rfl rfl rfl ta24 rfl <| qL rfl rfl rfl rfl ta30 rfl <| qL rfl rfl rfl rfl ta30 rfl ?_
  refine qX rfl rfl rfl rfl co17 (rCmp_at oa ob hc _) ?_
  refine qM rfl rfl rfl <| qO rfl <| zE0 rfl rfl rfl <| qO rfl <| zE0 rfl rfl rfl <| qA rfl rfl rfl <| qA rfl rfl rfl <| qN <| zB <| qR rfl <| qM rfl rfl rfl <| qM rfl rfl rfl <| qO rfl <| op_booleq rfl Tryz.underlying4 rfl rfl ?_
  try rw [beq_self_eq_true]
  refine qM rfl rfl rfl <| qM rfl rfl rfl ?_
  refine qX rfl rfl rfl rfl co18 (code6_err 14 _ (zZ hS)) ?_
  refine qM rfl rfl rfl <| qC rfl rfl rfl rfl (eqlI rfl) <| qP rfl rfl rfl rfl <| qM rfl rfl rfl <| qM rfl rfl rfl <| qM rfl rfl rfl <| qC rfl rfl rfl rfl (eqlI rfl) <| qP rfl rfl rfl rfl <| qM rfl rfl rfl <| qM rfl rfl rfl ?_
  refine qX rfl rfl rfl rfl co18 (code6_err 14 _ (zZ hS)) ?_
  refine qM rfl rfl rfl <| qC rfl rfl rfl rfl (eqlI rfl) <| qP rfl rfl rfl rfl <| qA rfl rfl rfl <| qN <| zK ?_
  exact zQ (.inr rfl) Tryz.results4 rfl (.of_eq (rfl)) (.bool _) ⟨rfl, rfl⟩
theorem tys_ok : okTypes Tryz.prog [24, 22, 3] = true := by kernel_rfl
theorem cells_sch : Tryz.prog.cellsOf 24 = 2 := by kernel_rfl
theorem tyM_int {n : Nat} {l : List MV} (h : TyM Tryz.prog n 3 l) : ∃ v, l = [.int .i64 v] ∧ (Lit.int .i64 v).wf = true := by
  cases n with
  | zero => exact h.elim
  | succ n => unfold TyM at h; rw [Tryz.underlying3] at h; exact h
theorem tyM_sch (n : Nat) : ∀ (l : List MV), TyM Tryz.prog n 24 l → ∃ s, MV.agg l = encS s := by
  induction n using Nat.strongRecOn with
  | _ n ih =>
  intro l h
  match n, ih, h with
  | n + 1, ih, h =>
    unfold TyM at h
    rw [Tryz.underlying24] at h
    obtain ⟨a, _, rfl, h1, b, _, rfl, h2, rfl⟩ := h
    obtain ⟨k, rfl, _⟩ := tyM_int h1
    match n, ih, h2 with
    | n + 1, ih, h2 =>
      unfold TyM at h2
      rw [zR0] at h2
      obtain ⟨xs, rfl, hx⟩ := h2
      have hss : ∀ ys : List MV, (∀ x ∈ ys, x.cells.length = Tryz.prog.cellsOf 24 ∧ TyM Tryz.prog n 24 x.cells ∧ ElF Tryz.prog 24 x) → ∃ ss, ys = encSs ss := by
        intro ys
        induction ys with
        | nil => exact fun _ => ⟨[], by simp [encSs]⟩
        | cons y ys ihy =>
          intro hy
          obtain ⟨ss, rfl⟩ := ihy (fun x hx => hy x (zT0 _ hx))
          obtain ⟨h1, h2, h3⟩ := hy y (zW0 ..)
          obtain ⟨s, hs⟩ := ih n (by omega) _ h2
          refine ⟨s :: ss, ?_⟩
          simp only [ElF, Tryz.underlying24] at h3
          rw [h3, hs]; simp [encSs]
      obtain ⟨ss, rfl⟩ := hss xs hx
      exact ⟨.mk k ss, by rw [cells_sch]; simp [encS]⟩
theorem arg_sch {H : Type} {enc : TypeId × Value → H} {W : World} {base b0 : Nat} {spare : Nat → Bool} {held : Bool} {r : Reach} {v : Value} {d : DataW H} {p : List MemPlace} (hv : Value.okWide Tryz.prog W r b0 24 v) (h : DataW.Trod enc Tryz.prog W base spare held 24 v d p) :
    ∃ s, Rd (g0 W) W (encS s) v := by
  obtain ⟨l, m, h1, h2⟩ := arg_struct tys_ok (by simp) Tryz.underlying24 hv h
  obtain ⟨s, hs⟩ := tyM_sch _ _ h2
  exact ⟨s, hs ▸ h1⟩
end Go.Proofs.YtnfcnpdpfgcchaaGreatDoor
namespace Go.MV
open Go Go.RowKit Go.WideShapes Go.ChangeShapes
section
section
variable {H : Type} {enc : TypeId × Value → H} {P : Program} {W : World} {base b0 : Nat} {spare : Nat → Bool} {held : Bool} {r : Reach} {ts : List TypeId} {t : TypeId} {v : Value} {d : DataW H} {p : List MemPlace}
theorem tyM_intK {k : IntKind} (hu : P.underlying t = some (.int k)) {n : Nat} {l : List MV} (h : TyM P n t l) : ∃ v, l = [.int k v] ∧ (Lit.int k v).wf = true := by
  cases n with
  | zero => exact h.elim
  | succ n => unfold TyM at h; rw [hu] at h; exact h
theorem tyM_str (hu : P.underlying t = some .string) {n : Nat} {l : List MV} (h : TyM P n t l) : ∃ s : Bs, l = [.str (bs s)] ∧ s.length ≤ maxLen := by
  cases n with
  | zero => exact h.elim
  | succ n =>
    unfold TyM at h; rw [hu] at h
    obtain ⟨s, rfl, hs⟩ := h
    exact ⟨strL s, by rw [bs_strL], by unfold strL; rw [Array.length_toList]; exact hs⟩
theorem tyM_slice {e : TypeId} (hu : P.underlying t = some (.slice e)) {n : Nat} {l : List MV} (h : TyM P n t l) : ∃ xs m, m + 1 = n ∧ l = [.lst none (P.cellsOf e) xs] ∧ ∀ x ∈ xs, x.cells.length = P.cellsOf e ∧ TyM P m e x.cells ∧ ElF P e x := by
  cases n with
  | zero => exact h.elim
  | succ n =>
    unfold TyM at h; rw [hu] at h
    obtain ⟨xs, h1, h2⟩ := h
    exact ⟨xs, n, rfl, h1, h2⟩
theorem tyM_struct {fs : Array Field} (hu : P.underlying t = some (.struct fs)) {n : Nat} {l : List MV} (h : TyM P n t l) : ∃ m, m + 1 = n ∧ TyFs (TyM P m) fs.toList l := by
  cases n with
  | zero => exact h.elim
  | succ n => unfold TyM at h; rw [hu] at h; exact ⟨n, rfl, h⟩
theorem all_enc {α : Type} {enc : α → MV} {q : α → Prop} : ∀ {xs : List MV}, (∀ x ∈ xs, ∃ a, x = enc a ∧ q a) → ∃ l : List α, xs = l.map enc ∧ ∀ a ∈ l, q a
  | [], _ => ⟨[], rfl, fun a h => by cases h⟩
  | x :: xs, h => by
    obtain ⟨l, rfl, hl⟩ := all_enc (fun y hy => h y (zT0 _ hy))
    obtain ⟨a, rfl, ha⟩ := h x (zW0 ..)
    refine ⟨a :: l, rfl, fun b hb => ?_⟩
    rcases List.mem_cons.1 hb with rfl | hb
    · exact ha
    · exact hl b hb
theorem el_str (hu : P.underlying t = some .string) (m : Nat) (x : MV) (h : TyM P m t x.cells) (he : ElF P t x) : ∃ a : Bs, x = .str (bs a) ∧ a.length ≤ maxLen := by
  obtain ⟨n, hn', hw⟩ := tyM_str hu h
  simp only [ElF, hu] at he
  rw [hn'] at he
  injection he with he
  exact ⟨n, he, hw⟩
theorem wf_u64 {n : Int} (h : (Lit.int .u64 n).wf = true) : ∃ m : Nat, n = (m : Int) ∧ m < 18446744073709551616 := by
  simp [Lit.wf, IntKind.min, IntKind.max, IntKind.signed, IntKind.bits] at h
  exact ⟨n.toNat, by omega, by omega⟩
end
end
end Go.MV
namespace Go.Proofs.YtnfcnpdpfgcchaaGreatDoor
open Go Go.MV
theorem cells_tick : Tryz.prog.cellsOf 59 = 2 := by kernel_rfl
theorem tyM_tick {m : Nat} {l : List MV} (h : TyM Tryz.prog m 59 l) : ∃ a : Tk, MV.agg l = encT a ∧ (0 ≤ a.2 ∧ a.2 < 18446744073709551616) := by
  obtain ⟨m', _, h⟩ := tyM_struct zL6 h
  obtain ⟨a, _, rfl, h1, b, _, rfl, h2, rfl⟩ := h
  obtain ⟨w, rfl, _⟩ := tyM_intK Tryz.underlying3 h1
  obtain ⟨n, rfl, hw⟩ := tyM_intK Tryz.underlying25 h2
  obtain ⟨k, rfl, hk⟩ := wf_u64 hw
  exact ⟨(w, k), rfl, by dsimp only; omega, by dsimp only; omega⟩
theorem el_tick (m : Nat) (x : MV) (_ : x.cells.length = Tryz.prog.cellsOf 59) (h : TyM Tryz.prog m 59 x.cells) (he : ElF Tryz.prog 59 x) : ∃ a : Tk, x = encT a ∧ (0 ≤ a.2 ∧ a.2 < 18446744073709551616) := by
  obtain ⟨a, e, ha⟩ := tyM_tick h
  simp only [ElF, zL6] at he
  exact ⟨a, he.trans e, ha⟩
theorem cellsV_str : Tryz.prog.cellsOf 9 = 1 := by kernel_rfl
theorem cellsV_clk : Tryz.prog.cellsOf 60 = 1 := by kernel_rfl
theorem cellsV_val : Tryz.prog.cellsOf 30 = 5 := by kernel_rfl
theorem tyM_val (n : Nat) : ∀ (l : List MV), TyM Tryz.prog n 30 l → ∃ x : Val, MV.agg l = encV x ∧ okV x := by
  induction n using Nat.strongRecOn with
  | _ n ih =>
  intro l h
  obtain ⟨n', rfl, h⟩ := tyM_struct zS0 h
  obtain ⟨a, _, rfl, h1, b, _, rfl, h2, c, _, rfl, h3, d, _, rfl, h4, e, _, rfl, h5, rfl⟩ := h
  obtain ⟨v1, rfl, w1⟩ := tyM_intK Tryz.underlying25 h1
  obtain ⟨v2, rfl, w2⟩ := tyM_intK Tryz.underlying25 h2
  obtain ⟨k1, rfl, hk1⟩ := wf_u64 w1
  obtain ⟨k2, rfl, hk2⟩ := wf_u64 w2
  obtain ⟨xs, m3, hm3, rfl, hx3⟩ := tyM_slice zX h3
  obtain ⟨ss, rfl, _⟩ := all_enc (enc := encX) (q := fun _ => True) (xs := xs) (fun x hx => by
    obtain ⟨_, g2, g3⟩ := hx3 x hx
    obtain ⟨a, e1, _⟩ := el_str Tryz.underlying9 m3 x g2 g3
    exact ⟨a, e1, trivial⟩)
  obtain ⟨ys, m4, hm4, rfl, hx4⟩ := tyM_slice zM h4
  obtain ⟨cs, rfl, hcs⟩ := all_enc (enc := encC) (q := fun c : List Tk => ∀ t ∈ c, okTk t) (xs := ys) (fun x hx => by
    obtain ⟨_, g2, g3⟩ := hx4 x hx
    obtain ⟨zs, m5, hm5, e5, hx5⟩ := tyM_slice zP g2
    simp only [ElF, zP] at g3
    rw [e5] at g3
    injection g3 with g3 _
    obtain ⟨c, rfl, hc⟩ := all_enc (enc := encT) (q := okTk) (xs := zs) (fun z hz => by
      obtain ⟨f1, f2, f3⟩ := hx5 z hz
      exact el_tick m5 z f1 f2 f3)
    refine ⟨c, ?_, hc⟩
    rw [g3, cells_tick]
    rfl)
  obtain ⟨us, m6, hm6, rfl, hx6⟩ := tyM_slice zO h5
  obtain ⟨vs, rfl, hvs⟩ := all_enc (enc := encV) (q := okV) (xs := us) (fun x hx => by
    obtain ⟨_, g2, g3⟩ := hx6 x hx
    obtain ⟨v, e1, hv⟩ := ih m6 (by omega) _ g2
    simp only [ElF, zS0] at g3
    exact ⟨v, g3.trans e1, hv⟩)
  refine ⟨.mk k1 k2 ss cs vs, ?_, ?_⟩
  · rw [cellsV_str, cellsV_clk, cellsV_val, encV, zJ4]
    rfl
  · simp only [okV]
    exact ⟨by omega, by omega, hcs, okVs_iff.2 hvs⟩
theorem arg_val {ts : List TypeId} (hok : okTypes Tryz.prog ts = true) (ht : 30 ∈ ts) {H : Type} {enc : TypeId × Value → H} {W : World} {base b0 : Nat} {spare : Nat → Bool} {held : Bool} {r : Reach} {v : Value} {d : DataW H} {p : List MemPlace} (hv : Value.okWide Tryz.prog W r b0 30 v) (h : DataW.Trod enc Tryz.prog W base spare held 30 v d p) :
    ∃ x : Val, Rd (g0 W) W (encV x) v ∧ okV x := by
  obtain ⟨l, m, h1, h2⟩ := arg_struct hok ht zS0 hv h
  obtain ⟨x, hx, ho⟩ := tyM_val _ _ h2
  exact ⟨x, hx ▸ h1, ho⟩
end Go.Proofs.YtnfcnpdpfgcchaaGreatDoor
