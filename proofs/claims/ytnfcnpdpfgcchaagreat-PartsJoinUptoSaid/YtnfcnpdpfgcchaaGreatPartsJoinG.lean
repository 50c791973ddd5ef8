/-
  Texts on which the proof of PartsJoin leans: part 7.
-/
import Derived.Test.YtnfcnpdpfgcchaaGreatPartsJoinF
set_option linter.unusedVariables false
set_option linter.unusedSimpArgs false
set_option maxRecDepth 20000
set_option maxHeartbeats 8000000
namespace Go.Proofs.YtnfcnpdpfgcchaaGreat
open Go Go.MV
theorem _root_.zW3 : type_of% @Tryz.ntmps30 := @Tryz.ntmps30
theorem _root_.zY2 : type_of% @Tryz.results30 := @Tryz.results30
theorem rj1 (n m : Int) (ins : List Sch) (S : MS) : MCalls Tryz.prog 30 [encS (.mk 1 ins), encV (.mk n 0 [] [] []), encV (.mk m 0 [] [] [])] S fun v σ' => v = .tup [encV (.mk (max n m) 0 [] [] []), .bool true] ∧ σ' = S := by
 refine zU zX3 V zW3 (zA V) ?_
 refine zB <| qR V <| qB V V V V V <| qB V V V V V <| qB V V V V V <| qO V <| zL0 V zm30 V V <| qA V V V <| qN <| zB <| zB <| qR V <| qF V V V zC2 <| qL V V V V ta3 V <| qN <| zB0 <| zB <| zB <| qR V <| qC V V V V ((show _ = some true from V)) <| qA V V V <| qN ?_
 refine zA0 V (V) <| zY <| zA0 V (V) <| zB <| qR V <| qF V V V zG4 <| qL V V V V ta25 V <| qF V V V zG4 <| qL V V V V ta25 V <| qO V <| op_max2 V V V <| qO V <| zS1 (y := encV (.mk (max n m) 0 [] [] [])) (zZ1 V zQ0 zm30 (.cons zG4 sz25 V V (zA V) .nil) (by kernel_rfl) Vv) (.agg (.cons (.of_eq (congrArg (MV.int _) (by rw [Int.max_def]; split <;> split <;> omega))) (.cons (.refl _) (.cons (.nil 1) (.cons (.nil 1) (.cons (.nil 5) .nil)))))) ?_
 refine qO V <| zG0 V V V V sz30 V V (zA V) V <| qA V V V <| qN <| zL ?_
 exact zR1 (.inr V) zY2 V V ta30 V (.refl _) (zT1 _ (.mk (max n m) 0 [] [] [])) V (.refl _) (.bool _) Vv
theorem rj2 (n m : Int) (ins : List Sch) (S : MS) : MCalls Tryz.prog 30 [encS (.mk 2 ins), encV (.mk n 0 [] [] []), encV (.mk m 0 [] [] [])] S fun v σ' => v = .tup [encV (.mk (max n m) 0 [] [] []), .bool true] ∧ σ' = S := by
 refine zU zX3 V zW3 (zA V) ?_
 refine zB <| qR V <| qB V V V V V <| qB V V V V V <| qB V V V V V <| qO V <| zL0 V zm30 V V <| qA V V V <| qN <| zB <| zB <| qR V <| qF V V V zC2 <| qL V V V V ta3 V <| qN <| zB0 <| zB <| zB <| qR V <| qC V V V V ((show _ = some false from V)) <| qA V V V <| qN ?_
 refine zQ V (V) <| qR V <| qC V V V V ((show _ = some true from V)) <| qA V V V <| qN <| zA0 V (V) <| zB <| qR V <| qF V V V zG4 <| qL V V V V ta25 V <| qF V V V zG4 <| qL V V V V ta25 V <| qO V <| op_max2 V V V <| qO V <| zS1 (y := encV (.mk (max n m) 0 [] [] [])) (zZ1 V zQ0 zm30 (.cons zG4 sz25 V V (zA V) .nil) (by kernel_rfl) Vv) (.agg (.cons (.of_eq (congrArg (MV.int _) (by rw [Int.max_def]; split <;> split <;> omega))) (.cons (.refl _) (.cons (.nil 1) (.cons (.nil 1) (.cons (.nil 5) .nil)))))) ?_
 refine qO V <| zG0 V V V V sz30 V V (zA V) V <| qA V V V <| qN <| zL ?_
 exact zR1 (.inr V) zY2 V V ta30 V (.refl _) (zT1 _ (.mk (max n m) 0 [] [] [])) V (.refl _) (.bool _) Vv
theorem rj3 (s1 s2 : List Bs) (u1 : Up s1) (u2 : Up s2) (hl : s1.length + s2.length ≤ 1000) (ins : List Sch) (S : MS) : MCalls Tryz.prog 30 [encS (.mk 3 ins), encV (.mk 0 0 s1 [] []), encV (.mk 0 0 s2 [] [])] S fun v σ' => v = .tup [encV (.mk 0 0 (bothX s1 s2) [] []), .bool (decide ((bothX s1 s2).length ≤ 40))] ∧ σ' = S := by
 refine zU zX3 V zW3 (zA V) ?_
 refine zB <| qR V <| qB V V V V V <| qB V V V V V <| qB V V V V V <| qO V <| zL0 V zm30 V V <| qA V V V <| qN <| zB <| zB <| qR V <| qF V V V zC2 <| qL V V V V ta3 V <| qN <| zB0 <| zB <| zB <| qR V <| qC V V V V ((show _ = some false from V)) <| qA V V V <| qN ?_
 refine zQ V (V) <| qR V <| qC V V V V ((show _ = some false from V)) <| qA V V V <| qN <| zQ V (V) <| zB <| qR V <| qC V V V V ((show _ = some true from V)) <| qA V V V <| qN <| zA0 V (V) <| zB <| qR V <| qF V V V zU1 <| qL V V V V ta26 V <| qF V V V zU1 <| qL V V V V ta26 V ?_
 refine qX V V V V co52 (rBothT_spec s1 s2 u1 u2 (by omega) _) ?_
 refine qA V V V <| qN <| zB <| qR V <| qM V V V <| qO V <| zS1 (y := encV (.mk 0 0 (bothX s1 s2) [] [])) (zZ1 V zQ0 zm30 (.cons zU1 sz26 V V (zA V) .nil) (by kernel_rfl) Vv) (.agg (.cons (.refl _) (.cons (.refl _) (.cons (.refl _) (.cons (.nil 1) (.cons (.nil 5) .nil)))))) ?_
 refine qM V V V <| qE V V zX V <| qC V V V V ((show _ = some (decide ((bothX s1 s2).length ≤ 40)) from by simp [intCmp]; omega)) ?_
 refine qO V <| zG0 V V V V sz30 V V (zA V) V <| qA V V V <| qN <| zL ?_
 exact zR1 (.inr V) zY2 V V ta30 V (.refl _) (zT1 _ (.mk 0 0 (bothX s1 s2) [] [])) V (.refl _) (.bool _) Vv
theorem rj4 (ins : List Sch) (n1 m1 : Int) (s1 : List Bs) (c1 : List (List Tk)) (w1 : List Val) (n2 m2 : Int) (s2 : List Bs) (c2 : List (List Tk)) (w2 : List Val) (n3 m3 : Int) (s3 : List Bs) (c3 : List (List Tk)) (w3 : List Val) (o : Bool) (hj : ∀ S : MS, MCalls Tryz.prog 53 [encS (.mk 4 ins), encV (.mk n1 m1 s1 c1 w1), encV (.mk n2 m2 s2 c2 w2)] S fun v σ' => v = .tup [encV (.mk n3 m3 s3 c3 w3), .bool o] ∧ σ' = S) (S : MS) : MCalls Tryz.prog 30 [encS (.mk 4 ins), encV (.mk n1 m1 s1 c1 w1), encV (.mk n2 m2 s2 c2 w2)] S fun v σ' => v = .tup [encV (.mk n3 m3 s3 c3 w3), .bool o] ∧ σ' = S := by
 refine zU zX3 V zW3 (zA V) ?_
 refine zB <| qR V <| qB V V V V V <| qB V V V V V <| qB V V V V V <| qO V <| zL0 V zm30 V V <| qA V V V <| qN <| zB <| zB <| qR V <| qF V V V zC2 <| qL V V V V ta3 V <| qN <| zB0 <| zB <| zB <| qR V <| qC V V V V ((show _ = some false from V)) <| qA V V V <| qN ?_
 refine zQ V (V) <| qR V <| qC V V V V ((show _ = some false from V)) <| qA V V V <| qN <| zQ V (V) <| zB <| qR V <| qC V V V V ((show _ = some false from V)) <| qA V V V <| qN <| zQ V (V) <| zB <| qR V <| qC V V V V ((show _ = some true from V)) <| qA V V V <| qN <| zA0 V (V) <| zB <| qR V <| qL V V V V ta24 V <| qL V V V V ta30 V ?_
 refine qL V V V V ta30 V ?_
 refine qX V V V V co53 (hj _) ?_
 refine qO V <| zF0 V V V <| qO V <| zF0 V V V <| qO V <| zG0 V V V V sz30 V V (zA V) V <| qA V V V <| qN <| zL ?_
 exact zR1 (.inr V) zY2 V V ta30 V (.refl _) (zT1 _ (.mk n3 m3 s3 c3 w3)) V (.refl _) (.bool _) Vv
theorem rj8 (ins : List Sch) (n1 m1 : Int) (s1 : List Bs) (c1 : List (List Tk)) (w1 : List Val) (n2 m2 : Int) (s2 : List Bs) (c2 : List (List Tk)) (w2 : List Val) (n3 m3 : Int) (s3 : List Bs) (c3 : List (List Tk)) (w3 : List Val) (o : Bool) (hj : ∀ S : MS, MCalls Tryz.prog 57 [encS (.mk 8 ins), encV (.mk n1 m1 s1 c1 w1), encV (.mk n2 m2 s2 c2 w2)] S fun v σ' => v = .tup [encV (.mk n3 m3 s3 c3 w3), .bool o] ∧ σ' = S) (S : MS) : MCalls Tryz.prog 30 [encS (.mk 8 ins), encV (.mk n1 m1 s1 c1 w1), encV (.mk n2 m2 s2 c2 w2)] S fun v σ' => v = .tup [encV (.mk n3 m3 s3 c3 w3), .bool o] ∧ σ' = S := by
 refine zU zX3 V zW3 (zA V) ?_
 refine zB <| qR V <| qB V V V V V <| qB V V V V V <| qB V V V V V <| qO V <| zL0 V zm30 V V <| qA V V V <| qN <| zB <| zB <| qR V <| qF V V V zC2 <| qL V V V V ta3 V <| qN <| zB0 <| zB <| zB <| qR V <| qC V V V V ((show _ = some false from V)) <| qA V V V <| qN ?_
 refine zQ V (V) <| qR V <| qC V V V V ((show _ = some false from V)) <| qA V V V <| qN <| zQ V (V) <| zB <| qR V <| qC V V V V ((show _ = some false from V)) <| qA V V V <| qN <| zQ V (V) <| zB <| qR V <| qC V V V V ((show _ = some false from V)) <| qA V V V <| qN <| zQ V (V) <| zB <| qR V <| qC V V V V ((show _ = some false from V)) <| qA V V V ?_
 refine qN <| zQ V (V) <| zB <| qR V <| qC V V V V ((show _ = some false from V)) <| qA V V V <| qN <| zQ V (V) <| zB <| qR V <| qC V V V V ((show _ = some false from V)) <| qA V V V <| qN <| zQ V (V) <| zY <| zB <| qR V <| qL V V V V ta24 V <| qL V V V V ta30 V <| qL V V V V ta30 V ?_
 refine qX V V V V co57 (hj _) ?_
 refine qO V <| zF0 V V V <| qO V <| zF0 V V V <| qO V <| zG0 V V V V sz30 V V (zA V) V <| qA V V V <| qN <| zL ?_
 exact zR1 (.inr V) zY2 V V ta30 V (.refl _) (zT1 _ (.mk n3 m3 s3 c3 w3)) V (.refl _) (.bool _) Vv
theorem rj6 (ins : List Sch) (n1 m1 : Int) (s1 : List Bs) (c1 : List (List Tk)) (w1 : List Val) (n2 m2 : Int) (s2 : List Bs) (c2 : List (List Tk)) (w2 : List Val) (n3 m3 : Int) (s3 : List Bs) (c3 : List (List Tk)) (w3 : List Val) (hz : laterF (.mk n1 m1 s1 c1 w1) (.mk n2 m2 s2 c2 w2) = (.mk n3 m3 s3 c3 w3)) (S : MS) : MCalls Tryz.prog 30 [encS (.mk 6 ins), encV (.mk n1 m1 s1 c1 w1), encV (.mk n2 m2 s2 c2 w2)] S fun v σ' => v = .tup [encV (.mk n3 m3 s3 c3 w3), .bool true] ∧ σ' = S := by
 refine zU zX3 V zW3 (zA V) ?_
 have hlt := fun S => rLater_spec (.mk n1 m1 s1 c1 w1) (.mk n2 m2 s2 c2 w2) S
 rw [hz] at hlt
 refine zB <| qR V <| qB V V V V V <| qB V V V V V <| qB V V V V V <| qO V <| zL0 V zm30 V V <| qA V V V <| qN <| zB <| zB <| qR V <| qF V V V zC2 <| qL V V V V ta3 V <| qN <| zB0 <| zB <| zB <| qR V <| qC V V V V ((show _ = some false from V)) <| qA V V V <| qN ?_
 refine zQ V (V) <| qR V <| qC V V V V ((show _ = some false from V)) <| qA V V V <| qN <| zQ V (V) <| zB <| qR V <| qC V V V V ((show _ = some false from V)) <| qA V V V <| qN <| zQ V (V) <| zB <| qR V <| qC V V V V ((show _ = some false from V)) <| qA V V V <| qN <| zQ V (V) <| zB <| qR V <| qC V V V V ((show _ = some false from V)) <| qA V V V ?_
 refine qN <| zQ V (V) <| zB <| qR V <| qC V V V V ((show _ = some true from V)) <| qA V V V <| qN <| zA0 V (V) <| zB <| qR V <| qL V V V V ta30 V <| qL V V V V ta30 V ?_
 refine qX V V V V co54 (hlt _) ?_
 refine qO V <| zG0 V V V V sz30 V V (zA V) V <| qA V V V <| qN <| zL ?_
 exact zR1 (.inr V) zY2 V V ta30 V (.refl _) (zT1 _ (.mk n3 m3 s3 c3 w3)) V (.refl _) (.bool _) Vv
theorem rj5 (k1 k2 : Int) (i1 i2 : List Sch) (xn xm : Int) (xs : List Bs) (xc : List (List Tk)) (xw : List Val) (un um : Int) (us : List Bs) (uc : List (List Tk)) (uw : List Val) (yn ym : Int) (ys : List Bs) (yc : List (List Tk)) (yw : List Val) (zn zm : Int) (zs : List Bs) (zc : List (List Tk)) (zw : List Val) (pn pm : Int) (ps : List Bs) (pc : List (List Tk)) (pw : List Val) (qn qm : Int) (qs : List Bs) (qc : List (List Tk)) (qw : List Val) (o1 o2 : Bool) (h1 : (∀ S : MS, MCalls Tryz.prog 30 [encS (.mk k1 i1), encV (.mk xn xm xs xc xw), encV (.mk yn ym ys yc yw)] S fun v σ' => v = .tup [encV (.mk pn pm ps pc pw), .bool o1] ∧ σ' = S)) (h2 : (∀ S : MS, MCalls Tryz.prog 30 [encS (.mk k2 i2), encV (.mk un um us uc uw), encV (.mk zn zm zs zc zw)] S fun v σ' => v = .tup [encV (.mk qn qm qs qc qw), .bool o2] ∧ σ' = S)) (S : MS) : MCalls Tryz.prog 30 [encS (.mk 5 [.mk k1 i1, .mk k2 i2]), encV (.mk 0 0 [] [] [(.mk xn xm xs xc xw), (.mk un um us uc uw)]), encV (.mk 0 0 [] [] [(.mk yn ym ys yc yw), (.mk zn zm zs zc zw)])] S fun v σ' => v = .tup [encV (.mk 0 0 [] [] [(.mk pn pm ps pc pw), (.mk qn qm qs qc qw)]), .bool (o1 && o2)] ∧ σ' = S := by
 refine zU zX3 V zW3 (zA V) ?_
 refine zB <| qR V <| qB V V V V V <| qB V V V V V <| qB V V V V V <| qO V <| zL0 V zm30 V V <| qA V V V <| qN <| zB <| zB <| qR V <| qF V V V zC2 <| qL V V V V ta3 V <| qN <| zB0 <| zB <| zB <| qR V <| qC V V V V ((show _ = some false from V)) <| qA V V V <| qN ?_
 refine zQ V (V) <| qR V <| qC V V V V ((show _ = some false from V)) <| qA V V V <| qN <| zQ V (V) <| zB <| qR V <| qC V V V V ((show _ = some false from V)) <| qA V V V <| qN <| zQ V (V) <| zB <| qR V <| qC V V V V ((show _ = some false from V)) <| qA V V V <| qN <| zQ V (V) <| zB <| qR V <| qC V V V V ((show _ = some true from V)) <| qA V V V ?_
 refine qN <| zA0 V (V) <| zB ?_
 refine zV0 [16, 17] [_, S ++ [.cells (encS (.mk 5 [.mk k1 i1, .mk k2 i2])).cells, .cells (encV (.mk 0 0 [] [] [(.mk xn xm xs xc xw), (.mk un um us uc uw)])).cells, .cells (encV (.mk 0 0 [] [] [(.mk yn ym ys yc yw), (.mk zn zm zs zc zw)])).cells, .cells [.int .u64 0, .int .u64 0, .lst0, .lst0, .lst0], .cells [.int .u64 0, .int .u64 0, .lst0, .lst0, .lst0]], S ++ [.cells (encS (.mk 5 [.mk k1 i1, .mk k2 i2])).cells, .cells (encV (.mk 0 0 [] [] [(.mk xn xm xs xc xw), (.mk un um us uc uw)])).cells, .cells (encV (.mk 0 0 [] [] [(.mk yn ym ys yc yw), (.mk zn zm zs zc zw)])).cells, .cells [.int .u64 0, .int .u64 0, .lst0, .lst0, .lst0], .cells (encV (.mk pn pm ps pc pw)).cells]] mo (by decide) V V V V ?_
 refine zV V V (.cons (zJ V V zR2 Vv) (.cons (zJ V V zR2 Vv) (.nil))) <| zV V V (.cons (zE0 V V V ta22 V Vv) (.cons (zE0 V V V ta22 V Vv) (.nil))) <| zV V V (.cons (zG V zJ0 sz24 (by decide) V V V (show _ = some (encS (.mk k1 i1)) from V) Vv) (.cons (zG V zJ0 sz24 (by decide) V V V (show _ = some (encS (.mk k1 i1)) from V) Vv) (.nil))) ?_
 refine zV V V (.cons (zI V V ta24 V Vv) (.cons (zI V V ta24 V Vv) (.nil))) <| zV V V (.cons (zJ V V zZ0 Vv) (.cons (zJ V V zZ0 Vv) (.nil))) <| zV V V (.cons (zE0 V V V ta28 V Vv) (.cons (zE0 V V V ta28 V Vv) (.nil))) <| zV V V (.cons (zG V zE sz30 (by decide) V V V (show _ = some (encV (.mk xn xm xs xc xw)) from V) Vv) (.cons (zG V zE sz30 (by decide) V V V (show _ = some (encV (.mk xn xm xs xc xw)) from V) Vv) (.nil))) ?_
 refine zV V V (.cons (zI V V ta30 V Vv) (.cons (zI V V ta30 V Vv) (.nil))) <| zV V V (.cons (zJ V V zZ0 Vv) (.cons (zJ V V zZ0 Vv) (.nil))) <| zV V V (.cons (zE0 V V V ta28 V Vv) (.cons (zE0 V V V ta28 V Vv) (.nil))) <| zV V V (.cons (zG V zE sz30 (by decide) V V V (show _ = some (encV (.mk yn ym ys yc yw)) from V) Vv) (.cons (zG V zE sz30 (by decide) V V V (show _ = some (encV (.mk yn ym ys yc yw)) from V) Vv) (.nil))) ?_
 refine zV V V (.cons (zI V V ta30 V Vv) (.cons (zI V V ta30 V Vv) (.nil))) <| zV V V (.cons (zC1 V V V co30 (h1 _)) (.cons (zC1 V V V co30 (h1 _)) (.nil))) <| zV V V (.cons (zS V V Vv) (.cons (zS V V Vv) (.nil))) <| zV V V (.cons (zF0 V V V Vv) (.cons (zF0 V V V Vv) (.nil))) <| zV V V (.cons (zF0 V V V Vv) (.cons (zF0 V V V Vv) (.cons (zF0 V V V Vv) (.nil)))) <| zL1 V V V V (zL0 V zm30 V V Vv) <| zL1 V V V V (zG0 V V V V sz30 V V (zA V) V Vv) <| dO V V V (zB1 V V Vv) <| zK0 <| zB ?_
 refine zV0 [16, 17] [_, S ++ [.cells (encS (.mk 5 [.mk k1 i1, .mk k2 i2])).cells, .cells (encV (.mk 0 0 [] [] [(.mk xn xm xs xc xw), (.mk un um us uc uw)])).cells, .cells (encV (.mk 0 0 [] [] [(.mk yn ym ys yc yw), (.mk zn zm zs zc zw)])).cells, .cells [.int .u64 0, .int .u64 0, .lst0, .lst0, .lst0], .cells (encV (.mk pn pm ps pc pw)).cells, .cells [.int .u64 0, .int .u64 0, .lst0, .lst0, .lst0]], S ++ [.cells (encS (.mk 5 [.mk k1 i1, .mk k2 i2])).cells, .cells (encV (.mk 0 0 [] [] [(.mk xn xm xs xc xw), (.mk un um us uc uw)])).cells, .cells (encV (.mk 0 0 [] [] [(.mk yn ym ys yc yw), (.mk zn zm zs zc zw)])).cells, .cells [.int .u64 0, .int .u64 0, .lst0, .lst0, .lst0], .cells (encV (.mk pn pm ps pc pw)).cells, .cells (encV (.mk qn qm qs qc qw)).cells]] mo (by decide) V V V V ?_
 refine zV V V (.cons (zJ V V zR2 Vv) (.cons (zJ V V zR2 Vv) (.nil))) <| zV V V (.cons (zE0 V V V ta22 V Vv) (.cons (zE0 V V V ta22 V Vv) (.nil))) <| zV V V (.cons (zG V zJ0 sz24 (by decide) V V V (show _ = some (encS (.mk k2 i2)) from V) Vv) (.cons (zG V zJ0 sz24 (by decide) V V V (show _ = some (encS (.mk k2 i2)) from V) Vv) (.nil))) ?_
 refine zV V V (.cons (zI V V ta24 V Vv) (.cons (zI V V ta24 V Vv) (.nil))) <| zV V V (.cons (zJ V V zZ0 Vv) (.cons (zJ V V zZ0 Vv) (.nil))) <| zV V V (.cons (zE0 V V V ta28 V Vv) (.cons (zE0 V V V ta28 V Vv) (.nil))) <| zV V V (.cons (zG V zE sz30 (by decide) V V V (show _ = some (encV (.mk un um us uc uw)) from V) Vv) (.cons (zG V zE sz30 (by decide) V V V (show _ = some (encV (.mk un um us uc uw)) from V) Vv) (.nil))) ?_
 refine zV V V (.cons (zI V V ta30 V Vv) (.cons (zI V V ta30 V Vv) (.nil))) <| zV V V (.cons (zJ V V zZ0 Vv) (.cons (zJ V V zZ0 Vv) (.nil))) <| zV V V (.cons (zE0 V V V ta28 V Vv) (.cons (zE0 V V V ta28 V Vv) (.nil))) <| zV V V (.cons (zG V zE sz30 (by decide) V V V (show _ = some (encV (.mk zn zm zs zc zw)) from V) Vv) (.cons (zG V zE sz30 (by decide) V V V (show _ = some (encV (.mk zn zm zs zc zw)) from V) Vv) (.nil))) ?_
 refine zV V V (.cons (zI V V ta30 V Vv) (.cons (zI V V ta30 V Vv) (.nil))) <| zV V V (.cons (zC1 V V V co30 (h2 _)) (.cons (zC1 V V V co30 (h2 _)) (.nil))) <| zV V V (.cons (zS V V Vv) (.cons (zS V V Vv) (.nil))) <| zV V V (.cons (zF0 V V V Vv) (.cons (zF0 V V V Vv) (.nil))) <| zV V V (.cons (zF0 V V V Vv) (.cons (zF0 V V V Vv) (.cons (zF0 V V V Vv) (.nil)))) <| zL1 V V V V (zL0 V zm30 V V Vv) <| zL1 V V V V (zG0 V V V V sz30 V V (zA V) V Vv) <| dO V V V (zB1 V V Vv) <| zK0 <| zB <| qR V <| qL V V V V ta30 V <| qL V V V V ta30 V <| qO V <| zA1 V zE el30 V V (by decide) (by decide) V V ?_
 refine qO V <| zS1 (y := encV (.mk 0 0 [] [] [(.mk pn pm ps pc pw), (.mk qn qm qs qc qw)])) (zZ1 V zQ0 zm30 (.cons zZ0 sz28 V V (zA V) .nil) (by kernel_rfl) Vv) (.agg (.cons (.refl _) (.cons (.refl _) (.cons (.nil 1) (.cons (.nil 1) (.cons (.refl _) .nil)))))) ?_
 refine qM V V V <| qM V V V ?_
 refine zD0 (fun h85 => ?_) (fun h85 => ?_)
 ·
  refine qM V V V <| qP V V V V <| qO V <| zG0 V V V V sz30 V V (zA V) V <| qA V V V <| qN <| zL ?_
  exact zR1 (.inr V) zY2 V V ta30 V (.refl _) (zT1 _ (.mk 0 0 [] [] [(.mk pn pm ps pc pw), (.mk qn qm qs qc qw)])) V (.of_eq (by rw [h85]; rfl)) (.bool _) Vv
 ·
  refine qS V <| qP V V V V <| qO V <| zG0 V V V V sz30 V V (zA V) V <| qA V V V <| qN <| zL ?_
  exact zR1 (.inr V) zY2 V V ta30 V (.refl _) (zT1 _ (.mk 0 0 [] [] [(.mk pn pm ps pc pw), (.mk qn qm qs qc qw)])) V (.of_eq (by rw [h85]; rfl)) (.bool _) Vv
theorem rj7a (x y : List Tk) (hl : x.length + y.length ≤ 1000) (ins : List Sch) (n3 m3 : Int) (s3 : List Bs) (c3 : List (List Tk)) (w3 : List Val) (hz : (clkV (rjoinF x y)) = (.mk n3 m3 s3 c3 w3)) (S : MS) : MCalls Tryz.prog 30 [encS (.mk 7 ins), encV (.mk 0 0 [] [x] []), encV (.mk 0 0 [] [y] [])] S fun v σ' => v = .tup [encV (.mk n3 m3 s3 c3 w3), .bool (decide ((rjoinF x y).length ≤ 40))] ∧ σ' = S := by
 refine zU zX3 V zW3 (zA V) ?_
 have hck := fun S => rClocks_spec (rjoinF x y) S
 rw [hz] at hck
 refine zB <| qR V <| qB V V V V V <| qB V V V V V <| qB V V V V V <| qO V <| zL0 V zm30 V V <| qA V V V <| qN <| zB <| zB <| qR V <| qF V V V zC2 <| qL V V V V ta3 V <| qN <| zB0 <| zB <| zB <| qR V <| qC V V V V ((show _ = some false from V)) <| qA V V V <| qN ?_
 refine zQ V (V) <| qR V <| qC V V V V ((show _ = some false from V)) <| qA V V V <| qN <| zQ V (V) <| zB <| qR V <| qC V V V V ((show _ = some false from V)) <| qA V V V <| qN <| zQ V (V) <| zB <| qR V <| qC V V V V ((show _ = some false from V)) <| qA V V V <| qN <| zQ V (V) <| zB <| qR V <| qC V V V V ((show _ = some false from V)) <| qA V V V ?_
 refine qN <| zQ V (V) <| zB <| qR V <| qC V V V V ((show _ = some false from V)) <| qA V V V <| qN <| zQ V (V) <| zB <| qR V <| qC V V V V ((show _ = some true from V)) <| qA V V V <| qN <| zA0 V (V) <| zB <| qR V <| qA V V V <| qA V V V <| qN <| zB <| zB <| qR V <| qF V V V zM1 ?_
 refine qL V V V V ta27 V <| qE V V zN V <| qC V V V V ((show _ = some true from V)) <| qN <| zA0 V (V) <| qR V <| qF V V V zM1 <| qL V V V V ta27 V <| qO V <| zG V zN sz55 (by decide) V V V (show _ = some (encC x) from V) ?_
 refine qO V <| zI V V ta55 V <| qA V V V <| qN <| zB <| zB <| qR V <| qF V V V zM1 <| qL V V V V ta27 V <| qE V V zN V <| qC V V V V ((show _ = some true from V)) <| qN <| zA0 V (V) <| qR V <| qF V V V zM1 <| qL V V V V ta27 V <| qO V <| zG V zN sz55 (by decide) V V V (show _ = some (encC y) from V) ?_
 refine qO V <| zI V V ta55 V <| qA V V V <| qN <| zB <| qR V <| qM V V V <| qM V V V ?_
 refine qX V V V V co56 ((zG5 x y (by first | (simp; done) | (simp; omega)) _).sub (.cons (.refl _) (.cons (.refl _) .nil))) ?_
 refine qX V V V V co55 (hck _) ?_
 refine qM V V V <| qM V V V ?_
 refine qX V V V V co56 ((zG5 x y (by first | (simp; done) | (simp; omega)) _).sub (.cons (.refl _) (.cons (.refl _) .nil))) ?_
 refine qE V V zP V <| qC V V V V ((show _ = some (decide ((rjoinF x y).length ≤ 40)) from by simp [intCmp]; omega)) ?_
 refine qO V <| zG0 V V V V sz30 V V (zA V) V <| qA V V V <| qN <| zL ?_
 exact zR1 (.inr V) zY2 V V ta30 V (.refl _) (zT1 _ (.mk n3 m3 s3 c3 w3)) V (.refl _) (.bool _) Vv
theorem rj7b (x y : List Tk) (hl : x.length + y.length ≤ 1000) (ins : List Sch) (n3 m3 : Int) (s3 : List Bs) (c3 : List (List Tk)) (w3 : List Val) (hz : (clkV (rjoinF x [])) = (.mk n3 m3 s3 c3 w3)) (S : MS) : MCalls Tryz.prog 30 [encS (.mk 7 ins), encV (.mk 0 0 [] [x] []), encV (.mk 0 0 [] [] [])] S fun v σ' => v = .tup [encV (.mk n3 m3 s3 c3 w3), .bool (decide ((rjoinF x []).length ≤ 40))] ∧ σ' = S := by
 refine zU zX3 V zW3 (zA V) ?_
 have hck := fun S => rClocks_spec (rjoinF x []) S
 rw [hz] at hck
 refine zB <| qR V <| qB V V V V V <| qB V V V V V <| qB V V V V V <| qO V <| zL0 V zm30 V V <| qA V V V <| qN <| zB <| zB <| qR V <| qF V V V zC2 <| qL V V V V ta3 V <| qN <| zB0 <| zB <| zB <| qR V <| qC V V V V ((show _ = some false from V)) <| qA V V V <| qN ?_
 refine zQ V (V) <| qR V <| qC V V V V ((show _ = some false from V)) <| qA V V V <| qN <| zQ V (V) <| zB <| qR V <| qC V V V V ((show _ = some false from V)) <| qA V V V <| qN <| zQ V (V) <| zB <| qR V <| qC V V V V ((show _ = some false from V)) <| qA V V V <| qN <| zQ V (V) <| zB <| qR V <| qC V V V V ((show _ = some false from V)) <| qA V V V ?_
 refine qN <| zQ V (V) <| zB <| qR V <| qC V V V V ((show _ = some false from V)) <| qA V V V <| qN <| zQ V (V) <| zB <| qR V <| qC V V V V ((show _ = some true from V)) <| qA V V V <| qN <| zA0 V (V) <| zB <| qR V <| qA V V V <| qA V V V <| qN <| zB <| zB <| qR V <| qF V V V zM1 ?_
 refine qL V V V V ta27 V <| qE V V zN V <| qC V V V V ((show _ = some true from V)) <| qN <| zA0 V (V) <| qR V <| qF V V V zM1 <| qL V V V V ta27 V <| qO V <| zG V zN sz55 (by decide) V V V (show _ = some (encC x) from V) ?_
 refine qO V <| zI V V ta55 V <| qA V V V <| qN <| zB <| zB <| qR V <| qF V V V zM1 <| qL V V V V ta27 V <| qE V V zN V <| qC V V V V ((show _ = some false from V)) <| qN <| zQ V (V) <| zY <| zB <| qR V <| qM V V V <| qM V V V ?_
 refine qX V V V V co56 ((zG5 x [] (by first | (simp; done) | (simp; omega)) _).sub (.cons (.refl _) (.cons (.nil 2) .nil))) ?_
 refine qX V V V V co55 (hck _) ?_
 refine qM V V V <| qM V V V ?_
 refine qX V V V V co56 ((zG5 x [] (by first | (simp; done) | (simp; omega)) _).sub (.cons (.refl _) (.cons (.nil 2) .nil))) ?_
 refine qE V V zP V <| qC V V V V ((show _ = some (decide ((rjoinF x []).length ≤ 40)) from by simp [intCmp]; omega)) ?_
 refine qO V <| zG0 V V V V sz30 V V (zA V) V <| qA V V V <| qN <| zL ?_
 exact zR1 (.inr V) zY2 V V ta30 V (.refl _) (zT1 _ (.mk n3 m3 s3 c3 w3)) V (.refl _) (.bool _) Vv
theorem rj7c (x y : List Tk) (hl : x.length + y.length ≤ 1000) (ins : List Sch) (n3 m3 : Int) (s3 : List Bs) (c3 : List (List Tk)) (w3 : List Val) (hz : (clkV (rjoinF [] y)) = (.mk n3 m3 s3 c3 w3)) (S : MS) : MCalls Tryz.prog 30 [encS (.mk 7 ins), encV (.mk 0 0 [] [] []), encV (.mk 0 0 [] [y] [])] S fun v σ' => v = .tup [encV (.mk n3 m3 s3 c3 w3), .bool (decide ((rjoinF [] y).length ≤ 40))] ∧ σ' = S := by
 refine zU zX3 V zW3 (zA V) ?_
 have hck := fun S => rClocks_spec (rjoinF [] y) S
 rw [hz] at hck
 refine zB <| qR V <| qB V V V V V <| qB V V V V V <| qB V V V V V <| qO V <| zL0 V zm30 V V <| qA V V V <| qN <| zB <| zB <| qR V <| qF V V V zC2 <| qL V V V V ta3 V <| qN <| zB0 <| zB <| zB <| qR V <| qC V V V V ((show _ = some false from V)) <| qA V V V <| qN ?_
 refine zQ V (V) <| qR V <| qC V V V V ((show _ = some false from V)) <| qA V V V <| qN <| zQ V (V) <| zB <| qR V <| qC V V V V ((show _ = some false from V)) <| qA V V V <| qN <| zQ V (V) <| zB <| qR V <| qC V V V V ((show _ = some false from V)) <| qA V V V <| qN <| zQ V (V) <| zB <| qR V <| qC V V V V ((show _ = some false from V)) <| qA V V V ?_
 refine qN <| zQ V (V) <| zB <| qR V <| qC V V V V ((show _ = some false from V)) <| qA V V V <| qN <| zQ V (V) <| zB <| qR V <| qC V V V V ((show _ = some true from V)) <| qA V V V <| qN <| zA0 V (V) <| zB <| qR V <| qA V V V <| qA V V V <| qN <| zB <| zB <| qR V <| qF V V V zM1 ?_
 refine qL V V V V ta27 V <| qE V V zN V <| qC V V V V ((show _ = some false from V)) <| qN <| zQ V (V) <| zY <| zB <| zB <| qR V <| qF V V V zM1 <| qL V V V V ta27 V <| qE V V zN V <| qC V V V V ((show _ = some true from V)) <| qN <| zA0 V (V) <| qR V <| qF V V V zM1 <| qL V V V V ta27 V <| qO V <| zG V zN sz55 (by decide) V V V (show _ = some (encC y) from V) ?_
 refine qO V <| zI V V ta55 V <| qA V V V <| qN <| zB <| qR V <| qM V V V <| qM V V V ?_
 refine qX V V V V co56 ((zG5 [] y (by first | (simp; done) | (simp; omega)) _).sub (.cons (.nil 2) (.cons (.refl _) .nil))) ?_
 refine qX V V V V co55 (hck _) ?_
 refine qM V V V <| qM V V V ?_
 refine qX V V V V co56 ((zG5 [] y (by first | (simp; done) | (simp; omega)) _).sub (.cons (.nil 2) (.cons (.refl _) .nil))) ?_
 refine qE V V zP V <| qC V V V V ((show _ = some (decide ((rjoinF [] y).length ≤ 40)) from by simp [intCmp]; omega)) ?_
 refine qO V <| zG0 V V V V sz30 V V (zA V) V <| qA V V V <| qN <| zL ?_
 exact zR1 (.inr V) zY2 V V ta30 V (.refl _) (zT1 _ (.mk n3 m3 s3 c3 w3)) V (.refl _) (.bool _) Vv
theorem rj7d (x y : List Tk) (hl : x.length + y.length ≤ 1000) (ins : List Sch) (n3 m3 : Int) (s3 : List Bs) (c3 : List (List Tk)) (w3 : List Val) (hz : (clkV (rjoinF [] [])) = (.mk n3 m3 s3 c3 w3)) (S : MS) : MCalls Tryz.prog 30 [encS (.mk 7 ins), encV (.mk 0 0 [] [] []), encV (.mk 0 0 [] [] [])] S fun v σ' => v = .tup [encV (.mk n3 m3 s3 c3 w3), .bool (decide ((rjoinF [] []).length ≤ 40))] ∧ σ' = S := by
 refine zU zX3 V zW3 (zA V) ?_
 have hck := fun S => rClocks_spec (rjoinF [] []) S
 rw [hz] at hck
 refine zB <| qR V <| qB V V V V V <| qB V V V V V <| qB V V V V V <| qO V <| zL0 V zm30 V V <| qA V V V <| qN <| zB <| zB <| qR V <| qF V V V zC2 <| qL V V V V ta3 V <| qN <| zB0 <| zB <| zB <| qR V <| qC V V V V ((show _ = some false from V)) <| qA V V V <| qN ?_
 refine zQ V (V) <| qR V <| qC V V V V ((show _ = some false from V)) <| qA V V V <| qN <| zQ V (V) <| zB <| qR V <| qC V V V V ((show _ = some false from V)) <| qA V V V <| qN <| zQ V (V) <| zB <| qR V <| qC V V V V ((show _ = some false from V)) <| qA V V V <| qN <| zQ V (V) <| zB <| qR V <| qC V V V V ((show _ = some false from V)) <| qA V V V ?_
 refine qN <| zQ V (V) <| zB <| qR V <| qC V V V V ((show _ = some false from V)) <| qA V V V <| qN <| zQ V (V) <| zB <| qR V <| qC V V V V ((show _ = some true from V)) <| qA V V V <| qN <| zA0 V (V) <| zB <| qR V <| qA V V V <| qA V V V <| qN <| zB <| zB <| qR V <| qF V V V zM1 ?_
 refine qL V V V V ta27 V <| qE V V zN V <| qC V V V V ((show _ = some false from V)) <| qN <| zQ V (V) <| zY <| zB <| zB <| qR V <| qF V V V zM1 <| qL V V V V ta27 V <| qE V V zN V <| qC V V V V ((show _ = some false from V)) <| qN <| zQ V (V) <| zY <| zB <| qR V <| qM V V V <| qM V V V ?_
 refine qX V V V V co56 ((zG5 [] [] (by first | (simp; done) | (simp; omega)) _).sub (.cons (.nil 2) (.cons (.nil 2) .nil))) ?_
 refine qX V V V V co55 (hck _) ?_
 refine qM V V V <| qM V V V ?_
 refine qX V V V V co56 ((zG5 [] [] (by first | (simp; done) | (simp; omega)) _).sub (.cons (.nil 2) (.cons (.nil 2) .nil))) ?_
 refine qE V V zP V <| qC V V V V ((show _ = some (decide ((rjoinF [] []).length ≤ 40)) from by simp [intCmp]; omega)) ?_
 refine qO V <| zG0 V V V V sz30 V V (zA V) V <| qA V V V <| qN <| zL ?_
 exact zR1 (.inr V) zY2 V V ta30 V (.refl _) (zT1 _ (.mk n3 m3 s3 c3 w3)) V (.refl _) (.bool _) Vv
def RJ (s : Sch) (a b : Val) : Prop := ∀ S : MS, MCalls Tryz.prog 30 [encS s, encV a, encV b] S fun v σ' => v = .tup [encV (jn s a b), .bool (okJ s a b)] ∧ σ' = S
theorem rj_of {s : Sch} {a b r : Val} {o : Bool} (hr : jn s a b = r) (ho : okJ s a b = o) (h : ∀ S : MS, MCalls Tryz.prog 30 [encS s, encV a, encV b] S fun v σ' => v = .tup [encV r, .bool o] ∧ σ' = S) : RJ s a b := by
 subst hr ho
 exact h
theorem no_ins {k : Int} {ins : List Sch} (h : partsF k = (ins.length : Int)) (hk : partsF k = 0) : ins = [] := List.eq_nil_of_length_eq_zero (by omega)
theorem isV_parts {ins : List Sch} {k n m : Int} {s : List Bs} {c : List (List Tk)} {w : List Val} (h : isVF (.mk k ins) (.mk n m s c w) = true) : w.length ≤ 40 ∧ c.length ≤ 40 := by
 rw [zW0] at h
 simp only [Bool.and_eq_true, decide_eq_true_eq] at h
 exact ⟨h.1.1.2, h.1.2⟩
theorem isM4 {t : Sch} {l : List (Bs × Val)} (h : isVF (.mk 4 [t]) (mapL l) = true) : l.length ≤ 40 ∧ ∀ e ∈ l, isVF t e.2 = true := by
 have h1 := (isV_parts (show isVF (.mk 4 [t]) (.mk 0 0 (l.map (·.1)) [] (l.map (·.2))) = true from h)).1
 rw [zC] at h1
 refine ⟨h1, fun e he => ?_⟩
 have h : isVF (.mk 4 [t]) (.mk 0 0 (l.map (·.1)) [] (l.map (·.2))) = true := h
 rw [zW0 4] at h
 simp only [Bool.and_eq_true] at h
 have h2 := h.2
 simp only [show ¬ ((4 : Int) = 1) by decide, show ¬ ((4 : Int) = 2) by decide, show ¬ ((4 : Int) = 3) by decide, if_false, if_true, Bool.and_eq_true, List.all_eq_true] at h2
 have := h2.2 e.2 (List.mem_map.2 ⟨e, he, rfl⟩)
 simp [isVL] at this
 exact this.1
theorem isM8 {t : Sch} {l : List (List Tk × Val)} (h : isVF (.mk 8 [t]) (cauL l) = true) : l.length ≤ 40 ∧ ∀ e ∈ l, isVF t e.2 = true := by
 have h1 := (isV_parts (show isVF (.mk 8 [t]) (.mk 0 0 [] (l.map (·.1)) (l.map (·.2))) = true from h)).1
 rw [zC] at h1
 refine ⟨h1, fun e he => ?_⟩
 have h : isVF (.mk 8 [t]) (.mk 0 0 [] (l.map (·.1)) (l.map (·.2))) = true := h
 rw [zW0 8] at h
 simp only [Bool.and_eq_true] at h
 have h2 := h.2
 simp only [show ¬ ((8 : Int) = 1) by decide, show ¬ ((8 : Int) = 2) by decide, show ¬ ((8 : Int) = 3) by decide, show ¬ ((8 : Int) = 4) by decide, show ¬ ((8 : Int) = 5) by decide, show ¬ ((8 : Int) = 6) by decide, show ¬ ((8 : Int) = 7) by decide, if_false, Bool.and_eq_true, List.all_eq_true] at h2
 have := h2.2 e.2 (List.mem_map.2 ⟨e, he, rfl⟩)
 simpa [isVL] using this
theorem zip_ml {κ : Type} (l : List (κ × Val)) : (l.map (·.1)).zip (l.map (·.2)) = l := zip_map l
theorem rj_map {t : Sch} (hF : isF 16 t = true) (ih : ∀ x y : Val, okV x → okV y → isVF t x = true → isVF t y = true → RJ t x y) {A B : List (Bs × Val)} (ra : R4 (LV t) (bottomF t) A) (rb : R4 (LV t) (bottomF t) B) (oa : okV (mapL A)) (ob : okV (mapL B)) (va : isVF (.mk 4 [t]) (mapL A) = true) (vb : isVF (.mk 4 [t]) (mapL B) = true) : RJ (.mk 4 [t]) (mapL A) (mapL B) := by
 obtain ⟨k1, i1⟩ := t
 have ha4 := isM4 va
 have hb4 := isM4 vb
 have pa := zW2.1 (show okV (.mk 0 0 (A.map (·.1)) [] (A.map (·.2))) from oa)
 have pb := zW2.1 (show okV (.mk 0 0 (B.map (·.1)) [] (B.map (·.2))) from ob)
 have hr1 : ∀ x ∈ A.map (·.2), okV x ∧ isVF (.mk k1 i1) x = true := fun x hx => ⟨pa.2.2.2 x hx, by obtain ⟨e, he, rfl⟩ := List.mem_map.1 hx; exact ha4.2 e he⟩
 have hr2 : ∀ x ∈ B.map (·.2), okV x ∧ isVF (.mk k1 i1) x = true := fun x hx => ⟨pb.2.2.2 x hx, by obtain ⟨e, he, rfl⟩ := List.mem_map.1 hx; exact hb4.2 e he⟩
 have hlA : (A.map (·.1)).length = (A.map (·.2)).length := by simp
 have hlB : (B.map (·.1)).length = (B.map (·.2)).length := by simp
 have hm := fun S => rMaps_spec k1 i1 hF (A.map (·.1)) (B.map (·.1)) (A.map (·.2)) (B.map (·.2)) hlA hlB (srt_up ra.srt) (srt_up rb.srt) (by rw [zC]; exact ha4.1) (by rw [zC]; exact hb4.1) hr1 hr2 (fun x y ox oy vx vy => ih x y ox oy vx vy) S
 have hlk : ∀ k, lkI (bottomF (.mk k1 i1)) (A.map (·.1)) (A.map (·.2)) k = lkB (bottomF (.mk k1 i1)) A k := fun k => by rw [lkI_look hlA, zip_ml]
 have hlk2 : ∀ k, lkI (bottomF (.mk k1 i1)) (B.map (·.1)) (B.map (·.2)) k = lkB (bottomF (.mk k1 i1)) B k := fun k => by rw [lkI_look hlB, zip_ml]
 have hsm := sem 16 (.mk k1 i1) hF
 refine rj_of (r := Val.mk 0 0 (bothX (A.map (fun e : Bs × Val => e.1)) (B.map (fun e : Bs × Val => e.1))) [] (mpV (.mk k1 i1) (A.map (fun e : Bs × Val => e.1)) (A.map (fun e : Bs × Val => e.2)) (B.map (fun e : Bs × Val => e.1)) (B.map (fun e : Bs × Val => e.2)) (bothX (A.map (fun e : Bs × Val => e.1)) (B.map (fun e : Bs × Val => e.1))))) (o := decide ((bothX (A.map (fun e : Bs × Val => e.1)) (B.map (fun e : Bs × Val => e.1))).length ≤ 40) && mpO (.mk k1 i1) (A.map (fun e : Bs × Val => e.1)) (A.map (fun e : Bs × Val => e.2)) (B.map (fun e : Bs × Val => e.1)) (B.map (fun e : Bs × Val => e.2)) (bothX (A.map (fun e : Bs × Val => e.1)) (B.map (fun e : Bs × Val => e.1)))) ?_ ?_ fun S => rj4 _ _ _ _ _ _ _ _ _ _ _ _ _ _ _ _ _ hm S
 ·rw [jn_mk, jnL_one]
  show mapL (mergeG cmpX (jn (.mk k1 i1)) (entX (mapL A)) (entX (mapL B))) = _
  rw [zZ2, zZ2, map_doc hsm ra.srt rb.srt ra.all rb.all]
  unfold mapL mpV
  rw [List.map_map, List.map_map]
  congr 1
  ·exact List.map_id _
  ·exact List.map_congr_left fun k _ => by simp only [Function.comp, hlk, hlk2]
 ·rw [map_ok ra.srt rb.srt (fun e he => (both_bot 16 _ hF (Nat.le_refl _) e.2 (hr1 _ (List.mem_map.2 ⟨e, he, rfl⟩)).1 (ha4.2 e he)).1) (fun e he => (both_bot 16 _ hF (Nat.le_refl _) e.2 (hr2 _ (List.mem_map.2 ⟨e, he, rfl⟩)).1 (hb4.2 e he)).2)]
  unfold mpO
  congr 2
  funext k
  rw [hlk, hlk2]
theorem rj_cause {t : Sch} (ih : ∀ x y : Val, okV x → okV y → isVF t x = true → isVF t y = true → RJ t x y) {A B : List (List Tk × Val)} (ra : R8 (LV t) A) (rb : R8 (LV t) B) (oa : okV (cauL A)) (ob : okV (cauL B)) (va : isVF (.mk 8 [t]) (cauL A) = true) (vb : isVF (.mk 8 [t]) (cauL B) = true) : RJ (.mk 8 [t]) (cauL A) (cauL B) := by
 obtain ⟨k1, i1⟩ := t
 have ha4 := isM8 va
 have hb4 := isM8 vb
 have pa := zW2.1 (show okV (.mk 0 0 [] (A.map (·.1)) (A.map (·.2))) from oa)
 have pb := zW2.1 (show okV (.mk 0 0 [] (B.map (·.1)) (B.map (·.2))) from ob)
 have hZ : (A.map (·.1) ++ B.map (·.1)).zip (A.map (·.2) ++ B.map (·.2)) = A ++ B := by
  rw [← List.map_append, ← List.map_append]; exact zip_ml _
 have hlen : (A.map (·.1) ++ B.map (·.1)).length = (A ++ B).length := by simp
 have hclk : ∀ c ∈ A.map (·.1) ++ B.map (·.1), ClkOk c := fun c hc => by
  rcases zJ1.1 hc with h | h
  ·obtain ⟨e, he, rfl⟩ := List.mem_map.1 h; exact ra.key e he
  ·obtain ⟨e, he, rfl⟩ := List.mem_map.1 h; exact rb.key e he
 have hcmp : ∀ c ∈ A.map (·.1) ++ B.map (·.1), ∀ o ∈ A.map (·.1) ++ B.map (·.1), rcmpF c o = cmpF c o := fun c hc o ho => (cmp_eq (hclk c hc).1 (hclk o ho).1 (hclk c hc).2.1 (hclk o ho).2.1).symm
 have hv : ∀ e ∈ A ++ B, okV e.2 ∧ isVF (.mk k1 i1) e.2 = true := fun e he => by
  rcases zJ1.1 he with h | h
  ·exact ⟨pa.2.2.2 _ (List.mem_map.2 ⟨e, h, rfl⟩), ha4.2 e h⟩
  ·exact ⟨pb.2.2.2 _ (List.mem_map.2 ⟨e, h, rfl⟩), hb4.2 e h⟩
 have hright : ∀ i e v, ((A.map (·.1) ++ B.map (·.1)).zip (A.map (·.2) ++ B.map (·.2)))[i]? = some (e, v) → (okV v ∧ isVF (.mk k1 i1) v = true) ∧ ∀ u, look (stL (.mk k1 i1) (A.map (·.1) ++ B.map (·.1)) ((A.map (·.1) ++ B.map (·.1)).zip (A.map (·.2) ++ B.map (·.2))) i) e = some u → okV u ∧ isVF (.mk k1 i1) u = true := fun i e v h => by
  rw [hZ] at h ⊢
  refine ⟨hv _ (zC0 h), fun u hu => ?_⟩
  unfold stL at hu
  rcases Nat.lt_or_ge i A.length with hi | hi
  ·rw [List.take_append_of_le_length (by omega)] at hu
   rw [fold_look _ _ (ra.srt.sublist (List.take_sublist _ _))] at hu
   split at hu
   ·cases hu
   ·have hl : look (A.take i) e = some u := by
     cases hq : look (A.take i) e with
     | none => rw [hq] at hu; cases hu
     | some q => rw [hq] at hu; exact hu
    exact hv _ (zJ1.2 (.inl ((List.take_sublist _ _).mem (zJ3 hl))))
  ·obtain ⟨j, rfl⟩ : ∃ j, i = A.length + j := ⟨i - A.length, by omega⟩
   rw [List.take_length_add_append, List.foldl_append, fold_look _ _ (rb.srt.sublist (List.take_sublist _ _)), fold_look _ _ ra.srt] at hu
   rw [List.getElem?_append_right (by omega), Nat.add_sub_cancel_left] at h
   have hno : look (B.take j) e = none := zC3 fun ⟨y, hy, hy2⟩ => by
    obtain ⟨m, hm⟩ := List.getElem?_of_mem hy
    rw [List.getElem?_take] at hm
    split at hm
    ·rename_i hmj
     have hj := (zH.1 h)
     have hm2 := (zH.1 hm)
     have := List.pairwise_iff_getElem.1 rb.srt m j hm2.1 hj.1 hmj
     rw [hm2.2, hj.2] at this
     exact ordT.irr e (by rw [← hy2] at this ⊢; exact this)
    ·cases hm
   split at hu
   ·cases hu
   ·rw [hno, zS6] at hu
    have hl : look A e = some u := by
     cases hq : look A e with
     | none => rw [hq] at hu; cases hu
     | some q => rw [hq] at hu; exact hu
    exact hv _ (zJ1.2 (.inl (zJ3 hl)))
 have hm := fun S => rCauses_spec k1 i1 (A.map (·.1)) (B.map (·.1)) (A.map (·.2)) (B.map (·.2)) (by simp) (by simp) (by rw [zC]; exact ha4.1) (by rw [zC]; exact hb4.1) hcmp hright (fun x y ox oy vx vy => ih x y ox oy vx vy) S
 rw [hZ, hlen] at hm
 have hst : stL (.mk k1 i1) (A.map (·.1) ++ B.map (·.1)) (A ++ B) (A ++ B).length = topG byTicksF blwC (jn (.mk k1 i1)) A B := by
  unfold stL
  rw [List.take_length, cause_doc ra.srt rb.srt]
 rw [hst] at hm
 refine rj_of (r := cauL (topG byTicksF blwC (jn (.mk k1 i1)) A B)) (o := okL (.mk k1 i1) (A.map (fun e : List Tk × Val => e.1) ++ B.map (fun e : List Tk × Val => e.1)) (A ++ B) (A ++ B).length && decide ((topG byTicksF blwC (jn (.mk k1 i1)) A B).length ≤ 40)) ?_ ?_ fun S => rj8 _ _ _ _ _ _ _ _ _ _ _ _ _ _ _ _ _ hm S
 ·rw [jn_mk, jnL_one]
  show cauL (topG byTicksF blwC (jn (.mk k1 i1)) (entC (cauL A)) (entC (cauL B))) = _
  rw [zO3, zO3]
 ·rw [cause_ok ra.srt rb.srt ra.len rb.len]
  unfold okL
  rw [List.take_length, okC_doc ra.srt rb.srt]
theorem okJ_some {s : Sch} {a b v : Val} (h : bothF s a b = some v) : okJ s a b = true := by unfold okJ; rw [h]; rfl
theorem len7 {ins : List Sch} {c : List Tk} (o : okV (clkW c)) (h : isVF (.mk 7 ins) (clkW c) = true) : c.length ≤ 40 := by
 by_cases he : c = []
 ·subst he; simp
 ·rw [zA3 he] at o h
  rw [zW0 7] at h
  simp only [Bool.and_eq_true] at h
  have hq : 0 < c.length ∧ isClockF c = true := by simpa using h.2
  exact ((zI5 ((zW2.1 o).2.2.1 c (by simp))).1 hq.2).2
theorem large7 {c : List Tk} (h : c.length ≤ 40) : largeF (clkW c) = false := by
 by_cases he : c = []
 ·subst he; rfl
 ·rw [zA3 he, zI3]; simp; omega
theorem large7' {c : List Tk} (h : ¬ c.length ≤ 40) : largeF (clkW c) = true := by
 rw [zA3 (by intro e; subst e; simp at h), zI3]; simp; omega
theorem rjoin_spec : ∀ (d : Nat) (s : Sch), isF d s = true → d ≤ 16 → ∀ a b : Val, okV a → okV b → isVF s a = true → isVF s b = true → RJ s a b
 | 0, s, h => by simp [isF] at h
 | d + 1, .mk k ins, h => by
  have h0 := h
  rw [isF] at h
  simp only [Bool.and_eq_true, List.all_eq_true, beq_iff_eq] at h
  intro hd a b oa ob va vb
  have la := zE6 (d + 1) _ h0 hd a oa va
  have lb := zE6 (d + 1) _ h0 hd b ob vb
  rw [LV_mk] at la lb
  rcases k8_of h.1 with rfl | rfl | rfl | rfl | rfl | rfl | rfl | rfl
  ·obtain ⟨n, rfl, hn⟩ := la
   obtain ⟨m, rfl, hm⟩ := lb
   exact rj_of (by rw [jn_mk]; rfl) (by unfold okJ; rw [zH3]; rfl) (rj1 n m ins)
  ·obtain ⟨n, rfl, hn⟩ := la
   obtain ⟨m, rfl, hm⟩ := lb
   exact rj_of (by rw [jn_mk]; rfl) (by unfold okJ; rw [zH3]; rfl) (rj2 n m ins)
  ·have := no_ins h.1 (by decide)
   subst this
   obtain ⟨s1, rfl, u1, _⟩ := la
   obtain ⟨s2, rfl, u2, _⟩ := lb
   have n1 := (zP3.1 (by rw [← is_set]; exact va : isRowF s1 = true)).1
   have n2 := (zP3.1 (by rw [← is_set]; exact vb : isRowF s2 = true)).1
   refine rj_of (by rw [jn_mk]; rfl) ?_ (rj3 s1 s2 u1 u2 (by omega) [])
   unfold okJ
   rw [both_set]
   by_cases hq : (bothX s1 s2).length ≤ 40
   ·rw [if_neg (by omega), decide_eq_true hq]; rfl
   ·rw [if_pos (by omega), decide_eq_false hq]; rfl
  ·obtain ⟨t, rfl⟩ := zX2 h.1 (by decide)
   have ht := h.2 t (by simp)
   have ht16 : isF 16 t = true := isF_le (by omega : d ≤ 16) ht
   rw [zT3, zN2] at la lb
   obtain ⟨A, rfl, ra⟩ := la
   obtain ⟨B, rfl, rb⟩ := lb
   exact rj_map ht16 (fun x y ox oy vx vy => rjoin_spec d t ht (by omega) x y ox oy vx vy) ra rb oa ob va vb
  ·obtain ⟨⟨k1, i1⟩, ⟨k2, i2⟩, rfl⟩ := zQ5 h.1
   rw [show LVL [Sch.mk k1 i1, Sch.mk k2 i2] = [LV (.mk k1 i1), LV (.mk k2 i2)] by simp [LVL]] at la lb
   obtain ⟨⟨xn, xm, xs, xc, xw⟩, ⟨un, um, us, uc, uw⟩, rfl, hx, hu⟩ := la
   obtain ⟨⟨yn, ym, ys, yc, yw⟩, ⟨zn, zm, zs, zc, zw⟩, rfl, hy, hz⟩ := lb
   rw [is_pair] at va vb
   simp only [Bool.and_eq_true] at va vb
   have pa := zW2.1 oa
   have pb := zW2.1 ob
   have j1 := rjoin_spec d _ (h.2 (.mk k1 i1) (by simp)) (by omega) _ _ (pa.2.2.2 _ (by simp)) (pb.2.2.2 _ (by simp)) va.1 vb.1
   have j2 := rjoin_spec d _ (h.2 (.mk k2 i2) (by simp)) (by omega) _ _ (pa.2.2.2 _ (by simp)) (pb.2.2.2 _ (by simp)) va.2 vb.2
   obtain ⟨⟨pn, pm, ps, pc, pw⟩, e1⟩ : ∃ v, jn (.mk k1 i1) (.mk xn xm xs xc xw) (.mk yn ym ys yc yw) = v := ⟨_, rfl⟩
   obtain ⟨⟨qn, qm, qs, qc, qw⟩, e2⟩ : ∃ v, jn (.mk k2 i2) (.mk un um us uc uw) (.mk zn zm zs zc zw) = v := ⟨_, rfl⟩
   unfold RJ at j1 j2
   rw [e1] at j1
   rw [e2] at j2
   refine rj_of (r := .mk 0 0 [] [] [.mk pn pm ps pc pw, .mk qn qm qs qc qw]) ?_ ?_ (rj5 k1 k2 i1 i2 xn xm xs xc xw un um us uc uw yn ym ys yc yw zn zm zs zc zw pn pm ps pc pw qn qm qs qc qw _ _ j1 j2)
   ·rw [jn_mk, ← e1, ← e2]
    simp [jnB, jnL, Val.vv]
   ·unfold okJ
    rw [zH3]
    show (capF (pairF2 (bothL [.mk k1 i1, .mk k2 i2]) _ _)).isSome = _
    rw [bothL_eq]
    simp only [pairF2, Val.vv, List.map_cons, List.map_nil]
    cases h1 : bothF (.mk k1 i1) (.mk xn xm xs xc xw) (.mk yn ym ys yc yw) with
    | none => simp [goP, h1, capF]
    | some v1 =>
     cases h2 : bothF (.mk k2 i2) (.mk un um us uc uw) (.mk zn zm zs zc zw) with
     | none => simp [goP, h1, h2, capF]
     | some v2 =>
      simp only [goP, h1, h2, Option.map_some]
      rw [capF_f (by rw [zI3]; simp)]; rfl
  ·have := no_ins h.1 (by decide)
   subst this
   have ha : isLV a = true := la.1
   have hb : isLV b = true := lb.1
   have hb6 := both_lv a b ha hb
   obtain ⟨n1, m1, s1, c1, w1⟩ := a
   obtain ⟨n2, m2, s2, c2, w2⟩ := b
   obtain ⟨⟨n3, m3, s3, c3, w3⟩, hz⟩ : ∃ v, laterF (.mk n1 m1 s1 c1 w1) (.mk n2 m2 s2 c2 w2) = v := ⟨_, rfl⟩
   exact rj_of (by rw [jn_mk]; exact hz) (okJ_some hb6) (rj6 [] n1 m1 s1 c1 w1 n2 m2 s2 c2 w2 n3 m3 s3 c3 w3 hz)
  ·obtain ⟨c, rfl, hc⟩ := la
   obtain ⟨e, rfl, he⟩ := lb
   have hlc : c.length ≤ 40 := len7 oa va
   have hle : e.length ≤ 40 := len7 ob vb
   have hje : joinF c e = rjoinF c e := join_eq hc.1 he.1 hc.2.1 he.2.1
   have hval : jn (.mk 7 ins) (clkW c) (clkW e) = clkV (rjoinF c e) := by
    rw [jn_mk, ← hje]
    show clocksF (clkW c) (clkW e) = _
    rw [zT2]
    rfl
   have hok : okJ (.mk 7 ins) (clkW c) (clkW e) = decide ((rjoinF c e).length ≤ 40) := by
    unfold okJ
    rw [zH3, show bothB 7 (bothL ins) (clkW c) (clkW e) = some (clkW (joinF c e)) by rw [← zT2]; rfl, hje]
    by_cases hq : (rjoinF c e).length ≤ 40
    ·rw [decide_eq_true hq, capF_f (large7 hq)]; rfl
    ·rw [decide_eq_false hq]
     unfold capF
     rw [Option.bind_some, large7' hq]
     rfl
   obtain ⟨⟨n3, m3, s3, c3, w3⟩, hz⟩ : ∃ v, clkV (rjoinF c e) = v := ⟨_, rfl⟩
   rw [hz] at hval
   refine rj_of hval hok ?_
   by_cases h1 : c = []
   ·subst h1
    by_cases h2 : e = []
    ·subst h2; exact rj7d [] [] (by simp) ins n3 m3 s3 c3 w3 hz
    ·rw [zA3 h2]; exact rj7c [] e (by simp; omega) ins n3 m3 s3 c3 w3 hz
   ·by_cases h2 : e = []
    ·subst h2; rw [zA3 h1]; exact rj7b c [] (by simp; omega) ins n3 m3 s3 c3 w3 hz
    ·rw [zA3 h1, zA3 h2]; exact rj7a c e (by omega) ins n3 m3 s3 c3 w3 hz
  ·obtain ⟨t, rfl⟩ := zX2 h.1 (by decide)
   have ht := h.2 t (by simp)
   rw [zT3] at la lb
   obtain ⟨A, rfl, ra⟩ := la
   obtain ⟨B, rfl, rb⟩ := lb
   exact rj_cause (fun x y ox oy vx vy => rjoin_spec d t ht (by omega) x y ox oy vx vy) ra rb oa ob va vb
def encJI (o : Except Int Val) : MV := .tup [match o with | .error _ => encV noV | .ok v => encV v, match o with | .error n => .int .i64 n | .ok _ => .int .i64 0]
def encLI (o : Except Int Bool) : MV := .tup [match o with | .error _ => .bool false | .ok v => .bool v, match o with | .error n => .int .i64 n | .ok _ => .int .i64 0]
theorem rIs_at {s : Sch} {x : Val} {b : Bool} (h : (isF 16 s && isVF s x) = b) (hx : okV x) (S : MS) : MCalls Tryz.prog 9 [encS s, encV x] S fun v σ' => v = .bool b ∧ σ' = S := h ▸ rValIs_spec s x hx S
theorem join_four (s : Sch) (a b : Val) (oa : okV a) (ob : okV b) :
  ((isF 16 s && isVF s a) = true ∧ (isF 16 s && isVF s b) = true ∧ RJ s a b ∧ okJ s a b = true ∧ joinVF s a b = .ok (jn s a b)) ∨ ((isF 16 s && isVF s a) = true ∧ (isF 16 s && isVF s b) = true ∧ RJ s a b ∧ okJ s a b = false ∧ joinVF s a b = .error 13) ∨
  ((isF 16 s && isVF s a) = false ∧ joinVF s a b = .error 14) ∨ ((isF 16 s && isVF s a) = true ∧ (isF 16 s && isVF s b) = false ∧ joinVF s a b = .error 14) := by
 by_cases ha : (isF 16 s && isVF s a) = true
 ·by_cases hb : (isF 16 s && isVF s b) = true
  ·have ha' := ha
   have hb' := hb
   simp only [Bool.and_eq_true] at ha hb
   have hr := rjoin_spec 16 s ha.1 (Nat.le_refl _) a b oa ob ha.2 hb.2
   cases hj : bothF s a b with
   | some v =>
    have hv := both_jn 16 s ha.1 a b v (zE6 16 s ha.1 (Nat.le_refl _) a oa ha.2) (zE6 16 s ha.1 (Nat.le_refl _) b ob hb.2) hj
    subst hv
    exact .inl ⟨ha', hb', hr, okJ_some hj, join_ok_of ha.1 ha.2 hb.2 hj⟩
   | none =>
    refine .inr (.inl ⟨ha', hb', hr, by unfold okJ; rw [hj]; rfl, ?_⟩)
    unfold joinVF
    rw [if_pos ⟨ha', hb'⟩, hj]
  ·have hb : (isF 16 s && isVF s b) = false := by simpa using hb
   exact .inr (.inr (.inr ⟨ha, hb, join_err fun h => by rw [hb] at h; exact absurd h.2 (by decide)⟩))
 ·have ha : (isF 16 s && isVF s a) = false := by simpa using ha
  exact .inr (.inr (.inl ⟨ha, join_err fun h => by rw [ha] at h; exact absurd h.1 (by decide)⟩))
theorem rJoin_spec (s : Sch) (a b : Val) (oa : okV a) (ob : okV b) (S : MS) : MCalls Tryz.prog 14 [encS s, encV a, encV b] S fun v σ' => v = encJI (joinVF s a b) ∧ σ' = S := by
 obtain ⟨k, ins⟩ := s
 obtain ⟨n1, m1, s1, c1, w1⟩ := a
 obtain ⟨n2, m2, s2, c2, w2⟩ := b
 refine zU Tryz.func14 V Tryz.ntmps14 (zA V) ?_
 refine zB <| qR V <| qB V V V V V <| qB V V V V V <| qB V V V V V <| qO V <| zL0 V zm30 V V <| qA V V V <| qN <| zB <| zB ?_
 rcases join_four (.mk k ins) (.mk n1 m1 s1 c1 w1) (.mk n2 m2 s2 c2 w2) oa ob with ⟨ha, hb, hr, ho, hj⟩ | ⟨ha, hb, hr, ho, hj⟩ | ⟨ha, hj⟩ | ⟨ha, hb, hj⟩
 ·
  obtain ⟨⟨n3, m3, s3, c3, w3⟩, ez⟩ : ∃ v, jn (.mk k ins) (.mk n1 m1 s1 c1 w1) (.mk n2 m2 s2 c2 w2) = v := ⟨_, rfl⟩
  have hjn := hr
  unfold RJ at hjn
  rw [ez, ho] at hjn
  rw [ez] at hj
  refine qR V <| qL V V V V ta24 V <| qL V V V V ta30 V ?_
  refine qX V V V V co9 (rIs_at ha oa _) ?_
  refine qO V <| zY0 V V <| qM V V V <| qL V V V V ta24 V <| qL V V V V ta30 V ?_
  refine qX V V V V co9 (rIs_at hb ob _) ?_
  refine qO V <| zY0 V V <| qP V V V V <| qN <| zQ V (V) <| zY <| zB <| qR V <| qL V V V V ta24 V <| qL V V V V ta30 V <| qL V V V V ta30 V ?_
  refine qX V V V V co30 (hjn _) ?_
  refine qM V V V <| qO V <| zF0 V V V <| qO V <| zF0 V V V <| qO V <| zL0 V zm30 V V <| qO V <| zG0 V V V V sz30 V V (zA V) V <| qA V V V <| qN <| zB <| zB <| qR V <| qM V V V <| qO V <| zY0 V V <| qN <| zQ V (V) <| zY <| zB <| qR V <| qL V V V V ta30 V <| qO V <| zG0 V V V V sz30 V V (zA V) V <| qA V V V ?_
  refine qN <| zL ?_
  exact zR1 (.inr V) Tryz.results14 V V ta30 V (.refl _) (zT1 _ (.mk n3 m3 s3 c3 w3)) V (.refl _) (.int _ _) ⟨by rw [hj]; rfl, rfl⟩
 ·
  obtain ⟨⟨n3, m3, s3, c3, w3⟩, ez⟩ : ∃ v, jn (.mk k ins) (.mk n1 m1 s1 c1 w1) (.mk n2 m2 s2 c2 w2) = v := ⟨_, rfl⟩
  have hjn := hr
  unfold RJ at hjn
  rw [ez, ho] at hjn
  refine qR V <| qL V V V V ta24 V <| qL V V V V ta30 V ?_
  refine qX V V V V co9 (rIs_at ha oa _) ?_
  refine qO V <| zY0 V V <| qM V V V <| qL V V V V ta24 V <| qL V V V V ta30 V ?_
  refine qX V V V V co9 (rIs_at hb ob _) ?_
  refine qO V <| zY0 V V <| qP V V V V <| qN <| zQ V (V) <| zY <| zB <| qR V <| qL V V V V ta24 V <| qL V V V V ta30 V <| qL V V V V ta30 V ?_
  refine qX V V V V co30 (hjn _) ?_
  refine qM V V V <| qO V <| zF0 V V V <| qO V <| zF0 V V V <| qO V <| zL0 V zm30 V V <| qO V <| zG0 V V V V sz30 V V (zA V) V <| qA V V V <| qN <| zB <| zB <| qR V <| qM V V V <| qO V <| zY0 V V <| qN <| zA0 V (V) <| zB <| qR V <| qO V <| zS1 (y := encV noV) (zZ1 V zQ0 zm30 .nil (by kernel_rfl) Vv) (.agg (.cons (.refl _) (.cons (.refl _) (.cons (.nil 1) (.cons (.nil 1) (.cons (.nil 5) .nil)))))) ?_
  refine qO V <| zG0 V V V V sz30 V V (zA V) V <| qA V V V <| qN <| zL ?_
  exact zR1 (.inr V) Tryz.results14 V V ta30 V (.refl _) (zT1 _ noV) V (.refl _) (.int _ _) ⟨by rw [hj]; rfl, rfl⟩
 ·
  refine qR V <| qL V V V V ta24 V <| qL V V V V ta30 V ?_
  refine qX V V V V co9 (rIs_at ha oa _) ?_
  refine qO V <| zY0 V V <| qM V V V <| qT V V V V <| qP V V V V <| qN <| zA0 V (V) <| zB <| qR V <| qO V <| zS1 (y := encV noV) (zZ1 V zQ0 zm30 .nil (by kernel_rfl) Vv) (.agg (.cons (.refl _) (.cons (.refl _) (.cons (.nil 1) (.cons (.nil 1) (.cons (.nil 5) .nil)))))) ?_
  refine qO V <| zG0 V V V V sz30 V V (zA V) V <| qA V V V <| qN <| zL ?_
  exact zR1 (.inr V) Tryz.results14 V V ta30 V (.refl _) (zT1 _ noV) V (.refl _) (.int _ _) ⟨by rw [hj]; rfl, rfl⟩
 ·
  refine qR V <| qL V V V V ta24 V <| qL V V V V ta30 V ?_
  refine qX V V V V co9 (rIs_at ha oa _) ?_
  refine qO V <| zY0 V V <| qM V V V <| qL V V V V ta24 V <| qL V V V V ta30 V ?_
  refine qX V V V V co9 (rIs_at hb ob _) ?_
  refine qO V <| zY0 V V <| qP V V V V <| qN <| zA0 V (V) <| zB <| qR V <| qO V <| zS1 (y := encV noV) (zZ1 V zQ0 zm30 .nil (by kernel_rfl) Vv) (.agg (.cons (.refl _) (.cons (.refl _) (.cons (.nil 1) (.cons (.nil 1) (.cons (.nil 5) .nil)))))) ?_
  refine qO V <| zG0 V V V V sz30 V V (zA V) V <| qA V V V <| qN <| zL ?_
  exact zR1 (.inr V) Tryz.results14 V V ta30 V (.refl _) (zT1 _ noV) V (.refl _) (.int _ _) ⟨by rw [hj]; rfl, rfl⟩
theorem rJoin_at {s : Sch} {a b : Val} {r : Except Int Val} (h : joinVF s a b = r) (oa : okV a) (ob : okV b) (S : MS) : MCalls Tryz.prog 14 [encS s, encV a, encV b] S fun v σ' => v = encJI r ∧ σ' = S := h ▸ rJoin_spec s a b oa ob S
theorem rLeq_spec (s : Sch) (a b : Val) (oa : okV a) (ob : okV b) (S : MS) : MCalls Tryz.prog 29 [encS s, encV a, encV b] S fun v σ' => v = encLI (leqVF s a b) ∧ σ' = S := by
 obtain ⟨k, ins⟩ := s
 obtain ⟨n1, m1, s1, c1, w1⟩ := a
 obtain ⟨n2, m2, s2, c2, w2⟩ := b
 refine zU Tryz.func29 V Tryz.ntmps29 (zA V) ?_
 refine zB <| qR V <| qB V V V V V <| qB V V V V V <| qB V V V V V <| qA V V V <| qA V V V <| qN <| zB ?_
 rcases joinR (.mk k ins) (.mk n1 m1 s1 c1 w1) (.mk n2 m2 s2 c2 w2) with ⟨n3, m3, s3, c3, w3, hj⟩ | hj | hj <;> have hof := rJoin_at hj oa ob
 ·
  refine qR V <| qL V V V V ta24 V <| qL V V V V ta30 V <| qL V V V V ta30 V ?_
  refine qX V V V V co14 (hof _) ?_
  refine qM V V V <| qO V <| zF0 V V V <| qO V <| zF0 V V V <| qO V <| zL0 V zm30 V V <| qO V <| zG0 V V V V sz30 V V (zA V) V <| qA V V V <| qN <| zB <| zB <| qR V <| qM V V V <| qC V V V V ((show _ = some false from V)) <| qN <| zQ V (V) <| zY <| zB <| qR V <| qM V V V <| qC V V V V ((show _ = some true from V)) <| qM V V V ?_
  refine qL V V V V ta30 V <| qL V V V V ta30 V ?_
  refine qX V V V V co12 (rSame_spec (.mk n3 m3 s3 c3 w3) (.mk n2 m2 s2 c2 w2) _) ?_
  refine qP V V V V <| qA V V V <| qA V V V <| qN <| zL ?_
  exact ret_tmp2 (.inr V) Tryz.results29 V V (.refl _) (.refl _) (.bool _) (.int _ _) ⟨by unfold leqVF; rw [hj]; rfl, rfl⟩
 ·
  refine qR V <| qL V V V V ta24 V <| qL V V V V ta30 V <| qL V V V V ta30 V ?_
  refine qX V V V V co14 (hof _) ?_
  refine qM V V V <| qO V <| zF0 V V V <| qO V <| zF0 V V V <| qO V <| zL0 V zm30 V V <| qO V <| zG0 V V V V sz30 V V (zA V) V <| qA V V V <| qN <| zB <| zB <| qR V <| qM V V V <| qC V V V V ((show _ = some false from V)) <| qN <| zQ V (V) <| zY <| zB <| qR V <| qM V V V <| qC V V V V ((show _ = some false from V)) <| qM V V V ?_
  refine qS V <| qS V <| qS V <| qP V V V V <| qA V V V <| qA V V V <| qN <| zL ?_
  exact ret_tmp2 (.inr V) Tryz.results29 V V (.refl _) (.refl _) (.bool _) (.int _ _) ⟨by unfold leqVF; rw [hj]; rfl, rfl⟩
 ·
  refine qR V <| qL V V V V ta24 V <| qL V V V V ta30 V <| qL V V V V ta30 V ?_
  refine qX V V V V co14 (hof _) ?_
  refine qM V V V <| qO V <| zF0 V V V <| qO V <| zF0 V V V <| qO V <| zL0 V zm30 V V <| qO V <| zG0 V V V V sz30 V V (zA V) V <| qA V V V <| qN <| zB <| zB <| qR V <| qM V V V <| qC V V V V ((show _ = some true from V)) <| qN <| zA0 V (V) <| zB <| qR V <| qA V V V <| qA V V V <| qN <| zL ?_
  exact ret_tmp2 (.inr V) Tryz.results29 V V (.refl _) (.refl _) (.bool _) (.int _ _) ⟨by unfold leqVF; rw [hj]; rfl, rfl⟩
theorem rIsS_at {s : Sch} {b : Bool} (h : isF 16 s = b) (S : MS) : MCalls Tryz.prog 21 [encS s] S fun v σ' => v = .bool b ∧ σ' = S := h ▸ rIsSchema_spec s S
theorem rAll_no (s : Sch) (l : List Val) (hs : isF 16 s = false) (S : MS) : MCalls Tryz.prog 11 [encS s, .lst none 5 (encVs l)] S fun v σ' => v = encJI (AllF s l) ∧ σ' = S := by
 obtain ⟨k, ins⟩ := s
 refine zU Tryz.func11 V Tryz.ntmps11 (zA V) ?_
 refine zB <| qR V <| qB V V V V V <| qO V <| zL0 V zm30 V V <| qA V V V <| qN <| zB <| zB <| qR V <| qL V V V V ta24 V ?_
 refine qX V V V V co21 (rIsS_at hs _) ?_
 refine qO V <| zY0 V V <| qN <| zA0 V (V) <| zB <| qR V <| qO V <| zS1 (y := encV noV) (zZ1 V zQ0 zm30 .nil (by kernel_rfl) Vv) (.agg (.cons (.refl _) (.cons (.refl _) (.cons (.nil 1) (.cons (.nil 1) (.cons (.nil 5) .nil)))))) ?_
 refine qO V <| zG0 V V V V sz30 V V (zA V) V <| qA V V V <| qN <| zL ?_
 exact zR1 (.inr V) Tryz.results11 V V ta30 V (.refl _) (zT1 _ noV) V (.refl _) (.int _ _) ⟨by rw [AllF_no hs]; rfl, rfl⟩
theorem rAll_yes (s : Sch) (l : List Val) (hs : isF 16 s = true) (ol : ∀ x ∈ l, okV x) (S : MS) : MCalls Tryz.prog 11 [encS s, .lst none 5 (encVs l)] S fun v σ' => v = encJI (AllF s l) ∧ σ' = S := by
 obtain ⟨k, ins⟩ := s
 refine zU Tryz.func11 V Tryz.ntmps11 (zA V) ?_
 obtain ⟨⟨bn, bm, bs_, bc, bw⟩, eb⟩ : ∃ v, bottomF (.mk k ins) = v := ⟨_, rfl⟩
 have hbt := fun S => rBottom_spec (.mk k ins) S
 rw [zH6 hs (Nat.le_refl _), eb] at hbt
 have hall0 : allGo (.mk k ins) (bottomF (.mk k ins)) (l.drop 0) = AllF (.mk k ins) l := by unfold AllF; rw [if_pos hs, zH6 hs (Nat.le_refl _)]; rfl
 rw [eb] at hall0
 have hob : okV (.mk bn bm bs_ bc bw) := by rw [← eb]; exact okV_bot hs
 refine zI2 (t := 1) V fun hlen => ?_
 rw [zO] at hlen
 refine zB <| qR V <| qB V V V V V <| qO V <| zL0 V zm30 V V <| qA V V V <| qN <| zB <| zB <| qR V <| qL V V V V ta24 V ?_
 refine qX V V V V co21 (rIsS_at hs _) ?_
 refine qO V <| zY0 V V <| qN <| zQ V (V) <| zY <| zB <| qR V <| qL V V V V ta24 V ?_
 refine qX V V V V co26 (hbt _) ?_
 refine qO V <| zL0 V zm30 V V <| qO V <| zG0 V V V V sz30 V V (zA V) V <| qN <| zB <| zB <| qR V <| qA V V V <| qN <| zB0 ?_
 refine mwp_loopKJ (α := Nat × Val) [(1, _), (2, _), (4, _), (6, _)] (fun x => [(7, .int .i64 (x.1 : Int))]) (fun x => [.cells (encS (.mk k ins)).cells, .cells [.int .u64 0, .int .u64 0, .lst0, .lst0, .lst0], .cells (encV x.2).cells]) (fun x => x.1 ≤ l.length ∧ allGo (.mk k ins) x.2 (l.drop x.1) = AllF (.mk k ins) l ∧ okV x.2) (fun x => l.length - x.1) (⟨0, (.mk bn bm bs_ bc bw)⟩) (Nat.le_refl _) (.keep V (.keep V (.keep V (.keep V (.nil))))) (.keep V (.nil)) (⟨by simp, hall0, hob⟩) (V) ?_
 rintro ⟨i, ⟨vn, vm, vs_, vc, vw⟩⟩ ⟨hi, hgo, ov⟩
 dsimp only at hi hgo ov ⊢
 refine zB <| zB <| qR V <| qM V V V <| qM V V V <| qE V V zE V <| qC V V V V V <| qN ?_
 refine zK V (fun h19 => ?_) (fun h19 => ?_)
 ·
  have hlt : i < l.length := by rw [zO] at h19; have := zO1 h19; omega
  obtain ⟨⟨xn, xm, xs, xc, xw⟩, hs2⟩ : ∃ q, l[i]? = some q := ⟨_, zD hlt⟩
  have ox := ol _ (zC0 hs2)
  have hgo2 : ∀ v, allGo (.mk k ins) v (l.drop i) = match joinVF (.mk k ins) v (.mk xn xm xs xc xw) with | .ok u => allGo (.mk k ins) u (l.drop (i + 1)) | .error e => .error e := fun v => by rw [dropJ hs2, allGo]; cases joinVF (.mk k ins) v (.mk xn xm xs xc xw) <;> rfl
  refine zY <| zB <| zB0 <| zB ?_
  rcases joinR (.mk k ins) (.mk vn vm vs_ vc vw) (.mk xn xm xs xc xw) with ⟨n3, m3, s3, c3, w3, hj⟩ | hj | hj <;> have hof := rJoin_at hj ov ox
  ·
   refine zV0 [10, 11] [_, S ++ [.cells (encS (.mk k ins)).cells, .cells [.int .u64 0, .int .u64 0, .lst0, .lst0, .lst0], .cells (encV (.mk vn vm vs_ vc vw)).cells, .cells [.int .u64 0, .int .u64 0, .lst0, .lst0, .lst0]], S ++ [.cells (encS (.mk k ins)).cells, .cells [.int .u64 0, .int .u64 0, .lst0, .lst0, .lst0], .cells (encV (.mk vn vm vs_ vc vw)).cells, .cells (encV (.mk n3 m3 s3 c3 w3)).cells]] mo (by decide) V V V V ?_
   refine zV V V (.cons (zE0 V V V ta24 V Vv) (.cons (zE0 V V V ta24 V Vv) (.nil))) <| zV V V (.cons (zE0 V V V ta30 V Vv) (.cons (zE0 V V V ta30 V Vv) (.nil))) <| zV V V (.cons (zS V V Vv) (.cons (zS V V Vv) (.nil))) <| zV V V (.cons (zS V V Vv) (.cons (zS V V Vv) (.nil))) <| zV V V (.cons (zG V zE sz30 (by decide) V V V (zN1 hs2) Vv) (.cons (zG V zE sz30 (by decide) V V V (zN1 hs2) Vv) (.nil))) ?_
   refine zV V V (.cons (zI V V ta30 V Vv) (.cons (zI V V ta30 V Vv) (.nil))) <| zV V V (.cons (zC1 V V V co14 (hof _)) (.cons (zC1 V V V co14 (hof _)) (.nil))) <| zV V V (.cons (zS V V Vv) (.cons (zS V V Vv) (.nil))) <| zV V V (.cons (zF0 V V V Vv) (.cons (zF0 V V V Vv) (.nil))) <| zV V V (.cons (zF0 V V V Vv) (.cons (zF0 V V V Vv) (.cons (zF0 V V V Vv) (.nil)))) <| zL1 V V V V (zL0 V zm30 V V Vv) <| zL1 V V V V (zG0 V V V V sz30 V V (zA V) V Vv) <| dO V V V (zB1 V V Vv) <| zK0 <| zB <| zB <| qR V <| qM V V V <| qC V V V V ((show _ = some false from V)) <| qN <| zQ V (V) <| zY <| qR V <| qL V V V V ta30 V <| qO V <| zG0 V V V V sz30 V V (zA V) V <| qN <| qR V <| qM V V V <| qO V <| zO0 V V V V ?_
   refine qA V V V <| qN ?_
   refine ⟨⟨i + 1, (.mk n3 m3 s3 c3 w3)⟩, _, by dsimp only; omega, ⟨by dsimp only; omega, by rw [hgo2, hj] at hgo; exact hgo, okV_join ov ox hj⟩, rfl, .same (.same (.new (clo_V _ _) .nil)), (.old V V (.old V V (.old V V (.old V V (.nil))))), (.new' V (zK1 hlt hlen) (.int _ _) (.nil))⟩
  ·
   refine zV0 [10, 11] [_, S ++ [.cells (encS (.mk k ins)).cells, .cells [.int .u64 0, .int .u64 0, .lst0, .lst0, .lst0], .cells (encV (.mk vn vm vs_ vc vw)).cells, .cells [.int .u64 0, .int .u64 0, .lst0, .lst0, .lst0]], S ++ [.cells (encS (.mk k ins)).cells, .cells [.int .u64 0, .int .u64 0, .lst0, .lst0, .lst0], .cells (encV (.mk vn vm vs_ vc vw)).cells, .cells (encV noV).cells]] mo (by decide) V V V V ?_
   refine zV V V (.cons (zE0 V V V ta24 V Vv) (.cons (zE0 V V V ta24 V Vv) (.nil))) <| zV V V (.cons (zE0 V V V ta30 V Vv) (.cons (zE0 V V V ta30 V Vv) (.nil))) <| zV V V (.cons (zS V V Vv) (.cons (zS V V Vv) (.nil))) <| zV V V (.cons (zS V V Vv) (.cons (zS V V Vv) (.nil))) <| zV V V (.cons (zG V zE sz30 (by decide) V V V (zN1 hs2) Vv) (.cons (zG V zE sz30 (by decide) V V V (zN1 hs2) Vv) (.nil))) ?_
   refine zV V V (.cons (zI V V ta30 V Vv) (.cons (zI V V ta30 V Vv) (.nil))) <| zV V V (.cons (zC1 V V V co14 (hof _)) (.cons (zC1 V V V co14 (hof _)) (.nil))) <| zV V V (.cons (zS V V Vv) (.cons (zS V V Vv) (.nil))) <| zV V V (.cons (zF0 V V V Vv) (.cons (zF0 V V V Vv) (.nil))) <| zV V V (.cons (zF0 V V V Vv) (.cons (zF0 V V V Vv) (.cons (zF0 V V V Vv) (.nil)))) <| zL1 V V V V (zL0 V zm30 V V Vv) <| zL1 V V V V (zG0 V V V V sz30 V V (zA V) V Vv) <| dO V V V (zB1 V V Vv) <| zK0 <| zB <| zB <| qR V <| qM V V V <| qC V V V V ((show _ = some true from V)) <| qN <| zA0 V (V) <| zB <| qR V <| qO V <| zS1 (y := encV noV) (zZ1 V zQ0 zm30 .nil (by kernel_rfl) Vv) (.agg (.cons (.refl _) (.cons (.refl _) (.cons (.nil 1) (.cons (.nil 1) (.cons (.nil 5) .nil)))))) ?_
   refine qM V V V <| qO V <| zG0 V V V V sz30 V V (zA V) V <| qA V V V <| qN <| zL ?_
   exact zR1 (.inr V) Tryz.results11 V V ta30 V (.refl _) (zT1 _ noV) V (.refl _) (.int _ _) ⟨by rw [hgo2, hj] at hgo; rw [← hgo]; rfl, rfl⟩
  ·
   refine zV0 [10, 11] [_, S ++ [.cells (encS (.mk k ins)).cells, .cells [.int .u64 0, .int .u64 0, .lst0, .lst0, .lst0], .cells (encV (.mk vn vm vs_ vc vw)).cells, .cells [.int .u64 0, .int .u64 0, .lst0, .lst0, .lst0]], S ++ [.cells (encS (.mk k ins)).cells, .cells [.int .u64 0, .int .u64 0, .lst0, .lst0, .lst0], .cells (encV (.mk vn vm vs_ vc vw)).cells, .cells (encV noV).cells]] mo (by decide) V V V V ?_
   refine zV V V (.cons (zE0 V V V ta24 V Vv) (.cons (zE0 V V V ta24 V Vv) (.nil))) <| zV V V (.cons (zE0 V V V ta30 V Vv) (.cons (zE0 V V V ta30 V Vv) (.nil))) <| zV V V (.cons (zS V V Vv) (.cons (zS V V Vv) (.nil))) <| zV V V (.cons (zS V V Vv) (.cons (zS V V Vv) (.nil))) <| zV V V (.cons (zG V zE sz30 (by decide) V V V (zN1 hs2) Vv) (.cons (zG V zE sz30 (by decide) V V V (zN1 hs2) Vv) (.nil))) ?_
   refine zV V V (.cons (zI V V ta30 V Vv) (.cons (zI V V ta30 V Vv) (.nil))) <| zV V V (.cons (zC1 V V V co14 (hof _)) (.cons (zC1 V V V co14 (hof _)) (.nil))) <| zV V V (.cons (zS V V Vv) (.cons (zS V V Vv) (.nil))) <| zV V V (.cons (zF0 V V V Vv) (.cons (zF0 V V V Vv) (.nil))) <| zV V V (.cons (zF0 V V V Vv) (.cons (zF0 V V V Vv) (.cons (zF0 V V V Vv) (.nil)))) <| zL1 V V V V (zL0 V zm30 V V Vv) <| zL1 V V V V (zG0 V V V V sz30 V V (zA V) V Vv) <| dO V V V (zB1 V V Vv) <| zK0 <| zB <| zB <| qR V <| qM V V V <| qC V V V V ((show _ = some true from V)) <| qN <| zA0 V (V) <| zB <| qR V <| qO V <| zS1 (y := encV noV) (zZ1 V zQ0 zm30 .nil (by kernel_rfl) Vv) (.agg (.cons (.refl _) (.cons (.refl _) (.cons (.nil 1) (.cons (.nil 1) (.cons (.nil 5) .nil)))))) ?_
   refine qM V V V <| qO V <| zG0 V V V V sz30 V V (zA V) V <| qA V V V <| qN <| zL ?_
   exact zR1 (.inr V) Tryz.results11 V V ta30 V (.refl _) (zT1 _ noV) V (.refl _) (.int _ _) ⟨by rw [hgo2, hj] at hgo; rw [← hgo]; rfl, rfl⟩
 ·
  have hge : i = l.length := by rw [zO] at h19; have := zP1 h19; omega
  rw [hge, List.drop_length, allGo] at hgo
  refine zF1 <| zB <| qR V <| qL V V V V ta30 V <| qO V <| zG0 V V V V sz30 V V (zA V) V <| qA V V V <| qN <| zL ?_
  exact zR1 (.inr V) Tryz.results11 V V ta30 V (.refl _) (zT1 _ (.mk vn vm vs_ vc vw)) V (.refl _) (.int _ _) ⟨by rw [← hgo]; rfl, rfl⟩
theorem rAll_spec (s : Sch) (l : List Val) (ol : ∀ x ∈ l, okV x) (S : MS) : MCalls Tryz.prog 11 [encS s, .lst none 5 (encVs l)] S fun v σ' => v = encJI (AllF s l) ∧ σ' = S := by
 cases hs : isF 16 s with
 | true => exact rAll_yes s l hs ol S
 | false => exact rAll_no s l hs S
theorem rAll_at {s : Sch} {l : List Val} {r : Except Int Val} (ol : ∀ x ∈ l, okV x) (h : AllF s l = r) (S : MS) : MCalls Tryz.prog 11 [encS s, .lst none 5 (encVs l)] S fun v σ' => v = encJI r ∧ σ' = S := h ▸ rAll_spec s l ol S
theorem rLeq_at {s : Sch} {a b : Val} {r : Except Int Bool} (oa : okV a) (ob : okV b) (h : leqVF s a b = r) (S : MS) : MCalls Tryz.prog 29 [encS s, encV a, encV b] S fun v σ' => v = encLI r ∧ σ' = S := h ▸ rLeq_spec s a b oa ob S
theorem joinX (s : Sch) (a b : Val) (ha : (isF 16 s && isVF s a) = true) (hb : (isF 16 s && isVF s b) = true) : (∃ n m t c w, joinVF s a b = .ok (.mk n m t c w)) ∨ joinVF s a b = .error 13 := by
 rcases joinR s a b with h | h | h
 ·exact .inl h
 ·exact .inr h
 ·unfold joinVF at h
  rw [if_pos ⟨ha, hb⟩] at h
  split at h
  ·cases h
  ·injection h with h; exact absurd h (by decide)
theorem PartsA_at {s : Sch} {v : Val} {l : List Val} (ov : okV v) (hs : isF 16 s = true) (hv : isVF s v = true) (hl : partsD 16 s v = l) (hn : l.length ≤ 2000000) (S : MS) : MCalls Tryz.prog 10 [encS s, encV v] S fun r σ' => r = .tup [.lst none 5 (encVs l), .iface0] ∧ σ' = S := by
 subst hl
 exact Parts_all s v ov hs hv hn S
theorem rBelow_yes {s : Sch} {a b : Val} (oa : okV a) (ob : okV b) (hl : leqVF s a b = .ok true) (S : MS) : MCalls Tryz.prog 13 [encS s, encV a, encV b] S fun v σ' => v = .bool true ∧ σ' = S := by
 obtain ⟨k, ins⟩ := s
 obtain ⟨n1, m1, s1, c1, w1⟩ := a
 obtain ⟨n2, m2, s2, c2, w2⟩ := b
 refine zU Tryz.func13 V Tryz.ntmps13 (zA V) ?_
 refine zB <| qR V <| qB V V V V V <| qB V V V V V <| qB V V V V V <| qA V V V <| qN <| zB <| qR V <| qL V V V V ta24 V <| qL V V V V ta30 V <| qL V V V V ta30 V ?_
 refine qX V V V V co29 (rLeq_at oa ob hl _) ?_
 refine qM V V V <| qO V <| zF0 V V V <| qO V <| zF0 V V V <| qA V V V <| qA V V V <| qN <| zB <| qR V <| qM V V V <| qM V V V <| qM V V V <| qC V V V V (eqlI V) <| qP V V V V <| qA V V V <| qN <| zL ?_
 exact zT (.inr V) Tryz.results13 V (.of_eq (V)) (.bool _) Vv
theorem rSame_at {a b : Val} {r : Bool} (h : decide (a = b) = r) (S : MS) : MCalls Tryz.prog 12 [encV a, encV b] S fun v σ' => v = .bool r ∧ σ' = S := h ▸ rSame_spec a b S
theorem in_spec (l : List Val) (y : Val) (S : MS) : MCalls Tryz.prog 15 [.lst none 5 (encVs l), encV y] S fun v σ' => v = .bool (decide (y ∈ l)) ∧ σ' = S := by
 obtain ⟨n, m, s, c, w⟩ := y
 refine zU Tryz.func15 V Tryz.ntmps15 (zA V) ?_
 refine zB <| qR V <| qB V V V V V <| qA V V V <| qN <| zB <| zB <| qR V <| qA V V V <| qN <| zB0 ?_
 refine zI2 (t := 0) V fun hlen => ?_
 rw [zO] at hlen
 refine zQ1 (α := Nat) [(0, _), (3, _)] (fun i => [(5, .int .i64 (i : Int))]) (fun i => [.cells (encV (Val.mk n m s c w)).cells]) (fun i => i ≤ l.length ∧ ∀ j, j < i → l[j]? ≠ some (Val.mk n m s c w)) (fun i => l.length - i) (0) (.keep V (.keep V (.nil))) (.keep V (.nil)) (⟨Nat.zero_le _, fun j hj => by omega⟩) (V) ?_
 rintro i ⟨hi, hno⟩
 refine zB <| zB <| qR V <| qM V V V <| qM V V V <| qE V V zE V <| qC V V V V V <| qN ?_
 refine zK V (fun h9 => ?_) (fun h9 => ?_)
 ·
  have hlt : i < l.length := by have := zO1 h9; rw [zO] at this; omega
  obtain ⟨⟨xn, xm, xs, xc, xw⟩, hs2⟩ : ∃ q, l[i]? = some q := ⟨_, zD hlt⟩
  refine zY <| zB <| zB0 <| zB ?_
  by_cases hx : (Val.mk xn xm xs xc xw) = (Val.mk n m s c w)
  ·
   refine zV0 [] [_] mo (by decide) V V V V ?_
   refine dO V V V (zS V V Vv) <| dO V V V (zS V V Vv) <| dO V V V (zG V zE sz30 (by decide) V V V (zN1 hs2) Vv) ?_
   refine dO V V V (zI V V ta30 V Vv) <| dO V V V (zE0 V V V ta30 V Vv) <| zV V V (.cons (zC1 V V V co12 (rSame_at (decide_eq_true hx) _)) .nil) <| zK0 <| zA0 V (V) <| zB <| qR V <| qA V V V <| qN <| zL ?_
   exact zT (.inr V) Tryz.results15 V (.of_eq (congrArg MV.bool (decide_eq_true (zC0 (hs2.trans (congrArg some hx)))).symm)) (.bool _) Vv
  ·
   refine zV0 [] [_] mo (by decide) V V V V ?_
   refine dO V V V (zS V V Vv) <| dO V V V (zS V V Vv) <| dO V V V (zG V zE sz30 (by decide) V V V (zN1 hs2) Vv) ?_
   refine dO V V V (zI V V ta30 V Vv) <| dO V V V (zE0 V V V ta30 V Vv) <| zV V V (.cons (zC1 V V V co12 (rSame_at (decide_eq_false hx) _)) .nil) <| zK0 <| zQ V (V) <| zY <| qR V <| qM V V V <| qO V <| zO0 V V V V <| qA V V V <| qN ?_
   refine ⟨i + 1, by omega, ⟨by omega, fun j hj => ?_⟩, rfl, (.keep V (.keep V (.nil))), (.eq V (zK1 hlt hlen) (.nil))⟩
   exact (Nat.lt_or_eq_of_le (Nat.lt_succ_iff.1 hj)).elim (fun h => hno j h) (fun h e => hx (by rw [h, hs2] at e; exact Option.some.inj e))
 ·
  have hge : i = l.length := by have := zP1 h9; rw [zO] at this; omega
  refine zF1 <| zB <| qR V <| qA V V V <| qN <| zL ?_
  exact zT (.inr V) Tryz.results15 V (.of_eq (congrArg MV.bool (decide_eq_false (fun hm => by obtain ⟨j, hj⟩ := List.getElem?_of_mem hm; have := (zH.1 hj).1; exact hno j (by omega) hj)).symm)) (.bool _) Vv
theorem in_at {l : List Val} {y : Val} {r : Bool} (h : decide (y ∈ l) = r) (S : MS) : MCalls Tryz.prog 15 [.lst none 5 (encVs l), encV y] S fun v σ' => v = .bool r ∧ σ' = S := h ▸ in_spec l y S
theorem PartsJoin_spec (s : Sch) (a b : Val) (oa : okV a) (ob : okV b) (hn : (partsD 16 s a).length + (partsD 16 s b).length ≤ 2000000) (S : MS) : MCalls Tryz.prog 3 [encS s, encV a, encV b] S fun v σ' => v = .bool true ∧ σ' = S := by
 obtain ⟨k, ins⟩ := s
 obtain ⟨n1, m1, s1, c1, w1⟩ := a
 obtain ⟨n2, m2, s2, c2, w2⟩ := b
 refine zU Tryz.func3 V Tryz.ntmps3 (zA V) ?_
 refine zB <| qR V <| qB V V V V V <| qB V V V V V <| qB V V V V V <| qA V V V <| qN <| zB <| zB <| qR V ?_
 refine qX V V V V co8 (knownP3_spec _) ?_
 refine qO V <| zY0 V V <| qN <| zQ V (V) <| zY <| zB <| zB ?_
 rcases Bool.eq_false_or_eq_true (isF 16 (.mk k ins) && isVF (.mk k ins) (.mk n1 m1 s1 c1 w1)) with ha | ha
 rcases Bool.eq_false_or_eq_true (isF 16 (.mk k ins) && isVF (.mk k ins) (.mk n2 m2 s2 c2 w2)) with hb | hb
 have hs : isF 16 (.mk k ins) = true := by simp only [Bool.and_eq_true] at ha; exact ha.1
 have va : isVF (.mk k ins) (.mk n1 m1 s1 c1 w1) = true := by simp only [Bool.and_eq_true] at ha; exact ha.2
 have vb : isVF (.mk k ins) (.mk n2 m2 s2 c2 w2) = true := by simp only [Bool.and_eq_true] at hb; exact hb.2
 obtain ⟨l, hl⟩ : ∃ l, partsD 16 (.mk k ins) (.mk n1 m1 s1 c1 w1) = l := ⟨_, rfl⟩
 obtain ⟨r, hr⟩ : ∃ l, partsD 16 (.mk k ins) (.mk n2 m2 s2 c2 w2) = l := ⟨_, rfl⟩
 rw [hl, hr] at hn
 have olp : ∀ p ∈ l, okV p := fun p hp => parts_okV 16 (.mk k ins) (.mk n1 m1 s1 c1 w1) oa p (by rw [hl]; exact hp)
 have hAl : AllF (.mk k ins) l = .ok (.mk n1 m1 s1 c1 w1) := by rw [← hl]; exact parts_all hs oa va (by rw [hl]; exact olp)
 have hone : ∀ p ∈ l, isVF (.mk k ins) p = true ∧ partsD 16 (.mk k ins) p = [p] ∧ leqVF (.mk k ins) p (.mk n1 m1 s1 c1 w1) = .ok true := fun p hp => by
  have hp2 : p ∈ partsD 16 (.mk k ins) (.mk n1 m1 s1 c1 w1) := by rw [hl]; exact hp
  obtain ⟨h1, h2⟩ := part_right hs oa va hp2
  exact ⟨h1, h2, part_below hs oa va hp2 (olp p hp)⟩
 rcases joinX (.mk k ins) (.mk n1 m1 s1 c1 w1) (.mk n2 m2 s2 c2 w2) ha hb with ⟨n3, m3, s3, c3, w3, hj⟩ | hj
 ·
  refine qR V <| qL V V V V ta24 V <| qL V V V V ta30 V ?_
  refine qX V V V V co9 (rIs_at ha oa _) ?_
  refine qO V <| zY0 V V <| qM V V V <| qL V V V V ta24 V <| qL V V V V ta30 V ?_
  refine qX V V V V co9 (rIs_at hb ob _) ?_
  refine qO V <| zY0 V V <| qP V V V V <| qN <| zQ V (V) <| zY <| zB <| qR V <| qL V V V V ta24 V <| qL V V V V ta30 V ?_
  refine qX V V V V co10 (PartsA_at oa hs va hl (by omega) _) ?_
  refine qM V V V <| qO V <| zF0 V V V <| qO V <| zF0 V V V <| qA V V V <| qA V V V <| qN <| zB <| qR V <| qL V V V V ta24 V <| qL V V V V ta30 V ?_
  refine qX V V V V co10 (PartsA_at ob hs vb hr (by omega) _) ?_
  refine qM V V V <| qO V <| zF0 V V V <| qO V <| zF0 V V V <| qA V V V <| qA V V V <| qN <| zB <| qR V <| qL V V V V ta24 V <| qM V V V ?_
  refine qX V V V V co11 (rAll_at olp hAl _) ?_
  refine qM V V V <| qO V <| zF0 V V V <| qO V <| zF0 V V V <| qO V <| zL0 V zm30 V V <| qO V <| zG0 V V V V sz30 V V (zA V) V <| qA V V V <| qN <| zB <| zB <| qR V <| qM V V V <| qO V <| zF6 V zG1 V V (.inr Vv) <| qM V V V <| qM V V V <| qO V <| zF6 V zG1 V V (.inr Vv) <| qP V V V V <| qM V V V ?_
  refine qM V V V <| qC V V V V ((show _ = some false from V)) <| qP V V V V <| qM V V V <| qL V V V V ta30 V <| qL V V V V ta30 V ?_
  refine qX V V V V co12 (rSame_true (.mk n1 m1 s1 c1 w1) _) ?_
  refine qO V <| zY0 V V <| qP V V V V <| qN <| zQ V (V) <| zY <| zB <| zB <| qR V <| qA V V V <| qN <| zB0 ?_
  refine zI2 (t := 7) V fun hlen => ?_
  rw [zO] at hlen
  refine zQ1 (α := Nat) [(3, _), (4, _), (5, _), (7, _), (9, _)] (fun i => [(13, .int .i64 (i : Int))]) (fun i => [.cells (encS (.mk k ins)).cells, .cells (encV (.mk n1 m1 s1 c1 w1)).cells, .cells (encV (.mk n2 m2 s2 c2 w2)).cells, .cells (encV (.mk n1 m1 s1 c1 w1)).cells]) (fun i => i ≤ l.length) (fun i => l.length - i) (0) (.keep V (.keep V (.keep V (.keep V (.keep V (.nil)))))) (.keep V (.nil)) (Nat.zero_le _) (V) ?_
  rintro i hi
  refine zB <| zB <| qR V <| qM V V V <| qM V V V <| qE V V zE V <| qC V V V V V <| qN ?_
  refine zK V (fun h70 => ?_) (fun h70 => ?_)
  ·
   have hlt : i < l.length := by have := zO1 h70; rw [zO] at this; omega
   obtain ⟨⟨xn, xm, xs, xc, xw⟩, hs2⟩ : ∃ q, l[i]? = some q := ⟨_, zD hlt⟩
   have hxm := zC0 hs2
   refine zY <| zB <| zB0 <| zB ?_
   refine zV0 [] [_] mo (by decide) V V V V ?_
   refine dO V V V (zE0 V V V ta24 V Vv) <| dO V V V (zS V V Vv) <| dO V V V (zS V V Vv) <| dO V V V (zG V zE sz30 (by decide) V V V (zN1 hs2) Vv) ?_
   refine dO V V V (zI V V ta30 V Vv) <| zV V V (.cons (zC1 V V V co10 (PartsA_at (olp _ hxm) hs (hone _ hxm).1 (hone _ hxm).2.1 (by simp) _)) .nil) ?_
   refine dO V V V (zS V V Vv) <| dO V V V (zF0 V V V Vv) <| dO V V V (zF0 V V V Vv) <| dO V V V (zB1 V V Vv) <| dO V V V (zB1 V V Vv) <| zK0 <| zB ?_
   refine zV0 [] [_] mo (by decide) V V V V ?_
   refine dO V V V (zS V V Vv) <| zV V V (.cons (zF6 V zG1 V V (.inr Vv) Vv) .nil) <| dO V V V (zS V V Vv) <| dO V V V (zS V V Vv) <| dO V V V (zP2 V zE V Vv) <| dO V V V (zQ2 V V V ((show _ = some false from V)) Vv) <| dO V V V (zD1 V V V Vv) <| dO V V V (zS V V Vv) <| dO V V V (zS V V Vv) <| dO V V V (zG V zE sz30 (by decide) V V V (show _ = some (encV (Val.mk xn xm xs xc xw)) from V) Vv) ?_
   refine dO V V V (zI V V ta30 V Vv) <| dO V V V (zS V V Vv) <| dO V V V (zS V V Vv) <| dO V V V (zG V zE sz30 (by decide) V V V (zN1 hs2) Vv) ?_
   refine dO V V V (zI V V ta30 V Vv) <| zV V V (.cons (zC1 V V V co12 (rSame_true (Val.mk xn xm xs xc xw) _)) .nil) <| dO V V V (zY0 V V Vv) <| dO V V V (zD1 V V V Vv) <| dO V V V (zS V V Vv) <| dO V V V (zE0 V V V ta24 V Vv) <| dO V V V (zS V V Vv) <| dO V V V (zS V V Vv) <| dO V V V (zG V zE sz30 (by decide) V V V (zN1 hs2) Vv) ?_
   refine dO V V V (zI V V ta30 V Vv) <| dO V V V (zE0 V V V ta30 V Vv) <| zV V V (.cons (zC1 V V V co13 (rBelow_yes (olp _ hxm) oa (hone _ hxm).2.2 _)) .nil) <| dO V V V (zY0 V V Vv) <| dO V V V (zD1 V V V Vv) <| zK0 <| zQ V (V) <| zY <| qR V <| qM V V V <| qO V <| zO0 V V V V <| qA V V V <| qN ?_
   refine ⟨i + 1, by omega, by omega, rfl, (.keep V (.keep V (.keep V (.keep V (.keep V (.nil)))))), (.eq V (zK1 hlt hlen) (.nil))⟩
  ·
   have hge : i = l.length := by have := zP1 h70; rw [zO] at this; omega
   refine zF1 <| zB <| qR V <| qL V V V V ta24 V <| qL V V V V ta30 V <| qL V V V V ta30 V ?_
   refine qX V V V V co14 (rJoin_at hj oa ob _) ?_
   refine qM V V V <| qO V <| zF0 V V V <| qO V <| zF0 V V V <| qO V <| zL0 V zm30 V V <| qO V <| zG0 V V V V sz30 V V (zA V) V <| qA V V V <| qN <| zB <| zB <| qR V <| qM V V V <| qC V V V V ((show _ = some false from V)) <| qN <| zQ V (V) <| zY <| zB ?_
   obtain ⟨qs, hq⟩ : ∃ l, partsD 16 (.mk k ins) (.mk n3 m3 s3 c3 w3) = l := ⟨_, rfl⟩
   obtain ⟨oj, vj, hmem, hlen2⟩ := parts_both hs oa ob va vb hj
   rw [hq, hl, hr] at hmem hlen2
   refine qR V <| qL V V V V ta24 V <| qL V V V V ta30 V ?_
   refine qX V V V V co10 (PartsA_at oj hs vj hq (by omega) _) ?_
   refine qM V V V <| qO V <| zF0 V V V <| qO V <| zF0 V V V <| qA V V V <| qA V V V <| qN <| zB <| zB <| qR V <| qA V V V <| qN <| zB0 ?_
   refine zI2 (t := 18) V fun hlen => ?_
   rw [zO] at hlen
   refine zQ1 (α := Nat) [(7, _), (9, _), (18, _), (19, _)] (fun i => [(20, .int .i64 (i : Int))]) (fun i => [.cells (encS (.mk k ins)).cells, .cells (encV (.mk n1 m1 s1 c1 w1)).cells, .cells (encV (.mk n2 m2 s2 c2 w2)).cells, .cells (encV (.mk n1 m1 s1 c1 w1)).cells, .cells (encV (.mk n3 m3 s3 c3 w3)).cells]) (fun i => i ≤ qs.length) (fun i => qs.length - i) (0) (.keep V (.keep V (.keep V (.keep V (.nil))))) (.keep V (.nil)) (Nat.zero_le _) (V) ?_
   rintro i hi
   refine zB <| zB <| qR V <| qM V V V <| qM V V V <| qE V V zE V <| qC V V V V V <| qN ?_
   refine zK V (fun h128 => ?_) (fun h128 => ?_)
   ·
    have hlt : i < qs.length := by have := zO1 h128; rw [zO] at this; omega
    obtain ⟨⟨xn, xm, xs, xc, xw⟩, hs2⟩ : ∃ q, qs[i]? = some q := ⟨_, zD hlt⟩
    have hxm := zC0 hs2
    refine zY <| zB <| zB0 <| zB ?_
    rcases (show (Val.mk xn xm xs xc xw) ∈ l ∨ ((Val.mk xn xm xs xc xw) ∉ l ∧ (Val.mk xn xm xs xc xw) ∈ r) by by_cases h : (Val.mk xn xm xs xc xw) ∈ l; exact .inl h; exact .inr ⟨h, (hmem _ hxm).resolve_left h⟩) with hin | ⟨hno, hin⟩
    ·
     refine qR V <| qM V V V <| qM V V V <| qM V V V <| qO V <| zG V zE sz30 (by decide) V V V (zN1 hs2) ?_
     refine qO V <| zI V V ta30 V ?_
     refine qX V V V V co15 (in_at (decide_eq_true hin) _) ?_
     refine qO V <| zY0 V V <| qM V V V <| qT V V V V <| qS V <| qS V <| qS V <| qP V V V V <| qN <| zQ V (V) <| zY <| qR V <| qM V V V <| qO V <| zO0 V V V V <| qA V V V <| qN ?_
     refine ⟨i + 1, by omega, by omega, rfl, (.keep V (.keep V (.keep V (.keep V (.nil))))), (.eq V (zK1 hlt hlen) (.nil))⟩
    ·
     refine qR V <| qM V V V <| qM V V V <| qM V V V <| qO V <| zG V zE sz30 (by decide) V V V (zN1 hs2) ?_
     refine qO V <| zI V V ta30 V ?_
     refine qX V V V V co15 (in_at (decide_eq_false hno) _) ?_
     refine qO V <| zY0 V V <| qM V V V <| qM V V V <| qM V V V <| qM V V V <| qO V <| zG V zE sz30 (by decide) V V V (zN1 hs2) ?_
     refine qO V <| zI V V ta30 V ?_
     refine qX V V V V co15 (in_at (decide_eq_true hin) _) ?_
     refine qO V <| zY0 V V <| qP V V V V <| qN <| zQ V (V) <| zY <| qR V <| qM V V V <| qO V <| zO0 V V V V <| qA V V V <| qN ?_
     refine ⟨i + 1, by omega, by omega, rfl, (.keep V (.keep V (.keep V (.keep V (.nil))))), (.eq V (zK1 hlt hlen) (.nil))⟩
   ·
    have hge : i = qs.length := by have := zP1 h128; rw [zO] at this; omega
    refine zF1 <| zB <| qR V <| qM V V V <| qO V <| zF6 V zG1 V V (.inl Vv) <| qA V V V <| qN <| zL ?_
    exact zT (.inr V) Tryz.results3 V (.of_eq (V)) (.bool _) Vv
 ·
  refine qR V <| qL V V V V ta24 V <| qL V V V V ta30 V ?_
  refine qX V V V V co9 (rIs_at ha oa _) ?_
  refine qO V <| zY0 V V <| qM V V V <| qL V V V V ta24 V <| qL V V V V ta30 V ?_
  refine qX V V V V co9 (rIs_at hb ob _) ?_
  refine qO V <| zY0 V V <| qP V V V V <| qN <| zQ V (V) <| zY <| zB <| qR V <| qL V V V V ta24 V <| qL V V V V ta30 V ?_
  refine qX V V V V co10 (PartsA_at oa hs va hl (by omega) _) ?_
  refine qM V V V <| qO V <| zF0 V V V <| qO V <| zF0 V V V <| qA V V V <| qA V V V <| qN <| zB <| qR V <| qL V V V V ta24 V <| qL V V V V ta30 V ?_
  refine qX V V V V co10 (PartsA_at ob hs vb hr (by omega) _) ?_
  refine qM V V V <| qO V <| zF0 V V V <| qO V <| zF0 V V V <| qA V V V <| qA V V V <| qN <| zB <| qR V <| qL V V V V ta24 V <| qM V V V ?_
  refine qX V V V V co11 (rAll_at olp hAl _) ?_
  refine qM V V V <| qO V <| zF0 V V V <| qO V <| zF0 V V V <| qO V <| zL0 V zm30 V V <| qO V <| zG0 V V V V sz30 V V (zA V) V <| qA V V V <| qN <| zB <| zB <| qR V <| qM V V V <| qO V <| zF6 V zG1 V V (.inr Vv) <| qM V V V <| qM V V V <| qO V <| zF6 V zG1 V V (.inr Vv) <| qP V V V V <| qM V V V ?_
  refine qM V V V <| qC V V V V ((show _ = some false from V)) <| qP V V V V <| qM V V V <| qL V V V V ta30 V <| qL V V V V ta30 V ?_
  refine qX V V V V co12 (rSame_true (.mk n1 m1 s1 c1 w1) _) ?_
  refine qO V <| zY0 V V <| qP V V V V <| qN <| zQ V (V) <| zY <| zB <| zB <| qR V <| qA V V V <| qN <| zB0 ?_
  refine zI2 (t := 7) V fun hlen => ?_
  rw [zO] at hlen
  refine zQ1 (α := Nat) [(3, _), (4, _), (5, _), (7, _), (9, _)] (fun i => [(13, .int .i64 (i : Int))]) (fun i => [.cells (encS (.mk k ins)).cells, .cells (encV (.mk n1 m1 s1 c1 w1)).cells, .cells (encV (.mk n2 m2 s2 c2 w2)).cells, .cells (encV (.mk n1 m1 s1 c1 w1)).cells]) (fun i => i ≤ l.length) (fun i => l.length - i) (0) (.keep V (.keep V (.keep V (.keep V (.keep V (.nil)))))) (.keep V (.nil)) (Nat.zero_le _) (V) ?_
  rintro i hi
  refine zB <| zB <| qR V <| qM V V V <| qM V V V <| qE V V zE V <| qC V V V V V <| qN ?_
  refine zK V (fun h70 => ?_) (fun h70 => ?_)
  ·
   have hlt : i < l.length := by have := zO1 h70; rw [zO] at this; omega
   obtain ⟨⟨xn, xm, xs, xc, xw⟩, hs2⟩ : ∃ q, l[i]? = some q := ⟨_, zD hlt⟩
   have hxm := zC0 hs2
   refine zY <| zB <| zB0 <| zB ?_
   refine zV0 [] [_] mo (by decide) V V V V ?_
   refine dO V V V (zE0 V V V ta24 V Vv) <| dO V V V (zS V V Vv) <| dO V V V (zS V V Vv) <| dO V V V (zG V zE sz30 (by decide) V V V (zN1 hs2) Vv) ?_
   refine dO V V V (zI V V ta30 V Vv) <| zV V V (.cons (zC1 V V V co10 (PartsA_at (olp _ hxm) hs (hone _ hxm).1 (hone _ hxm).2.1 (by simp) _)) .nil) ?_
   refine dO V V V (zS V V Vv) <| dO V V V (zF0 V V V Vv) <| dO V V V (zF0 V V V Vv) <| dO V V V (zB1 V V Vv) <| dO V V V (zB1 V V Vv) <| zK0 <| zB ?_
   refine zV0 [] [_] mo (by decide) V V V V ?_
   refine dO V V V (zS V V Vv) <| zV V V (.cons (zF6 V zG1 V V (.inr Vv) Vv) .nil) <| dO V V V (zS V V Vv) <| dO V V V (zS V V Vv) <| dO V V V (zP2 V zE V Vv) <| dO V V V (zQ2 V V V ((show _ = some false from V)) Vv) <| dO V V V (zD1 V V V Vv) <| dO V V V (zS V V Vv) <| dO V V V (zS V V Vv) <| dO V V V (zG V zE sz30 (by decide) V V V (show _ = some (encV (Val.mk xn xm xs xc xw)) from V) Vv) ?_
   refine dO V V V (zI V V ta30 V Vv) <| dO V V V (zS V V Vv) <| dO V V V (zS V V Vv) <| dO V V V (zG V zE sz30 (by decide) V V V (zN1 hs2) Vv) ?_
   refine dO V V V (zI V V ta30 V Vv) <| zV V V (.cons (zC1 V V V co12 (rSame_true (Val.mk xn xm xs xc xw) _)) .nil) <| dO V V V (zY0 V V Vv) <| dO V V V (zD1 V V V Vv) <| dO V V V (zS V V Vv) <| dO V V V (zE0 V V V ta24 V Vv) <| dO V V V (zS V V Vv) <| dO V V V (zS V V Vv) <| dO V V V (zG V zE sz30 (by decide) V V V (zN1 hs2) Vv) ?_
   refine dO V V V (zI V V ta30 V Vv) <| dO V V V (zE0 V V V ta30 V Vv) <| zV V V (.cons (zC1 V V V co13 (rBelow_yes (olp _ hxm) oa (hone _ hxm).2.2 _)) .nil) <| dO V V V (zY0 V V Vv) <| dO V V V (zD1 V V V Vv) <| zK0 <| zQ V (V) <| zY <| qR V <| qM V V V <| qO V <| zO0 V V V V <| qA V V V <| qN ?_
   refine ⟨i + 1, by omega, by omega, rfl, (.keep V (.keep V (.keep V (.keep V (.keep V (.nil)))))), (.eq V (zK1 hlt hlen) (.nil))⟩
  ·
   have hge : i = l.length := by have := zP1 h70; rw [zO] at this; omega
   refine zF1 <| zB <| qR V <| qL V V V V ta24 V <| qL V V V V ta30 V <| qL V V V V ta30 V ?_
   refine qX V V V V co14 (rJoin_at hj oa ob _) ?_
   refine qM V V V <| qO V <| zF0 V V V <| qO V <| zF0 V V V <| qO V <| zL0 V zm30 V V <| qO V <| zG0 V V V V sz30 V V (zA V) V <| qA V V V <| qN <| zB <| zB <| qR V <| qM V V V <| qC V V V V ((show _ = some true from V)) <| qN <| zA0 V (V) <| zB <| qR V <| qA V V V <| qN <| zL ?_
   exact zT (.inr V) Tryz.results3 V (.of_eq (V)) (.bool _) Vv
 ·
  refine qR V <| qL V V V V ta24 V <| qL V V V V ta30 V ?_
  refine qX V V V V co9 (rIs_at ha oa _) ?_
  refine qO V <| zY0 V V <| qM V V V <| qL V V V V ta24 V <| qL V V V V ta30 V ?_
  refine qX V V V V co9 (rIs_at hb ob _) ?_
  refine qO V <| zY0 V V <| qP V V V V <| qN <| zA0 V (V) <| zB <| qR V <| qA V V V <| qN <| zL ?_
  exact zT (.inr V) Tryz.results3 V (.of_eq (V)) (.bool _) Vv
 ·
  refine qR V <| qL V V V V ta24 V <| qL V V V V ta30 V ?_
  refine qX V V V V co9 (rIs_at ha oa _) ?_
  refine qO V <| zY0 V V <| qM V V V <| qT V V V V <| qP V V V V <| qN <| zA0 V (V) <| zB <| qR V <| qA V V V <| qN <| zL ?_
  exact zT (.inr V) Tryz.results3 V (.of_eq (V)) (.bool _) Vv
theorem fm_le : ∀ (w : List Val) (F : Nat → List Val), (∀ i x, w[i]? = some x → (F i).length ≤ szM (encV x)) → ((List.range w.length).flatMap F).length ≤ (w.map fun x => szM (encV x)).sum
 | [], F, _ => by simp
 | x :: w, F, h => by
  have h0 := h 0 x rfl
  have ih := fm_le w (fun i => F (i + 1)) fun i y hy => h (i + 1) y (by simpa using hy)
  rw [zW, List.range_succ_eq_map, List.flatMap_cons, List.flatMap_map, zM, List.map_cons, List.sum_cons]
  exact Nat.add_le_add h0 ih
theorem parts_len : ∀ (d : Nat) (s : Sch) (v : Val), (partsD d s v).length ≤ szM (encV v)
 | 0, s, v => Nat.zero_le _
 | d + 1, .mk k ins, .mk n m s c w => by
  rw [partsD, sz_mk]
  split
  ·exact Nat.zero_le _
  split
  ·unfold leavesF
   dsimp only
   split
   ·have := szMs_len (s.map encX)
    simp at this ⊢
    omega
   split
   ·have := szC c
    have e : (c.flatMap fun x => x.map fun t => Val.mk 0 0 [] [[t]] []).length = (c.flatMap fun x => x).length := by
     clear this
     induction c with
     | nil => rfl
     | cons x c ih => simp [List.flatMap_cons] at ih ⊢; try omega
    omega
   ·simp
  ·have := fm_le w (partAt (partsD d) k ins s c w) fun i x hx => by
    have hg : w.getD i noV = x := by simp [hx]
    unfold partAt
    rw [hg]
    split
    ·rw [zC]; exact parts_len d _ x
    split
    ·rw [zC]; exact parts_len d _ x
    ·rw [zC]
     unfold innerF
     split
     ·exact szM_pos _
     ·exact parts_len d _ x
   rw [sz_val]
   omega
end Go.Proofs.YtnfcnpdpfgcchaaGreat
